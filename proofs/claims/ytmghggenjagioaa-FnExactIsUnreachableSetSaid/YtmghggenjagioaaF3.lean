/- What functions of the program compute, as plain functions, and that a call gives just that. Conditions: those named in each theorem. -/
import Derived.Test.YtmghggenjagioaaF2
set_option linter.unusedVariables false
namespace Go.Proofs
open Go.G Go.RowKit
set_option maxRecDepth 100000

def k_impl_newChainer (M : Nat → Prop) (w0 : World) (r : (Option (Int × (List (List Int)) × (List Bool) × (List (List Int)) × (List (List Int)) × Int × Int)) × Bool) (a : Act) (w : World) : Prop :=
  ∃ (σ : Nat → Value) (rn0 : Value) (rf0 : List Nat), a = fr 123 (ovl σ [(2, rn0), (3, (.bool r.2))]) ∧ Chg [] w0 w ∧ (RT.op 58 (RT.pr (RT.int .i64) (RT.pr (RT.os 37 (RT.rs (RT.int .i64))) (RT.pr (RT.os 4 RT.bool) (RT.pr (RT.os 37 (RT.os 3 (RT.int .i64))) (RT.pr (RT.os 37 (RT.os 3 (RT.int .i64))) (RT.pr (RT.int .i64) (RT.int .i64)))))))).val (PastL M [] w0 w (rf0 ++ ([]))) w rn0 r.1 rf0 ∧ Own (Nw w0 []) (fun _ => True) w (rf0 ++ ([]))
def s_impl_newChainer (a_ : Int × (List (Int × (List Int)))) : Option ((Option (Int × (List (List Int)) × (List Bool) × (List (List Int)) × (List (List Int)) × Int × Int)) × Bool) :=
  ((s_impl_IsAlgebra (a_.1, a_.2)).bind fun r7 =>
  (bif (!r7) then some true else some (decide (3 < a_.1)))).bind fun s3 =>
  (bif s3 then some (none, false) else (s_impl_termFunctions (a_.1, a_.2) 3).bind fun r11 =>
  (bif (!r11.2) then some (none, false) else (r11.1).bind fun p24 =>
  (forR (S := (List Bool) × (List (List Int)) × (List (List Int))) (R := (Option (Int × (List (List Int)) × (List Bool) × (List (List Int)) × (List (List Int)) × Int × Int)) × Bool) (fun _ x195 s192 =>
  (s_impl_valuesAt a_.1 x195 ([0, 1, 0])).bind fun r234 =>
  (s_impl_firsts a_.1).bind fun r237 =>
  (s_impl_sameList r234 r237).bind fun r240 =>
  (app s192.1 ([r240])).bind fun y244 =>
  (s_impl_valuesAt a_.1 x195 ([0, 0, 1])).bind fun r263 =>
  (app s192.2.1 ([r263])).bind fun y268 =>
  (s_impl_valuesAt a_.1 x195 ([0, 1, 1])).bind fun r275 =>
  (app s192.2.2 ([r275])).bind fun y280 =>
  some (.nx (y244, y268, y280))) 0 p24.1 ([], [], [])).bind fun o196 => after o196 (fun r_ => some r_) (fun s192 =>
  (s_impl_projection a_.1 3 0).bind fun r292 =>
  (s_impl_patternAt p24.1 r292).bind fun r295 =>
  (s_impl_projection a_.1 3 2).bind fun r299 =>
  (s_impl_patternAt p24.1 r299).bind fun r302 =>
  some ((some (a_.1, p24.1, s192.1, s192.2.1, s192.2.2, r295, r302)), true))))
set_option maxHeartbeats 4000000 in
theorem c_impl_newChainer {M : Nat → Prop} {w : World} {pa0 : Option Addr} {pn0 pc0 : Nat} (a_ : Int × (List (Int × (List Int)))) (h0 : (RT.rs (RT.pr (RT.int .i64) (RT.rs (RT.int .i64)))).val M w (.slice pa0 pn0 pc0) a_.2 ([])) (hM : ∀ g, w.heap.size ≤ g → M g) {r : (Option (Int × (List (List Int)) × (List Bool) × (List (List Int)) × (List (List Int)) × Int × Int)) × Bool} (hs : s_impl_newChainer a_ = some r) :
    Gives Try.prog 41 [(.agg #[(.int .i64 a_.1), (.slice pa0 pn0 pc0)])] w (fun v w' => ∃ (rn0 : Value) (rf0 : List Nat), v = (.tuple #[rn0, (.bool r.2)]) ∧ Chg [] w w' ∧ (RT.op 58 (RT.pr (RT.int .i64) (RT.pr (RT.os 37 (RT.rs (RT.int .i64))) (RT.pr (RT.os 4 RT.bool) (RT.pr (RT.os 37 (RT.os 3 (RT.int .i64))) (RT.pr (RT.os 37 (RT.os 3 (RT.int .i64))) (RT.pr (RT.int .i64) (RT.int .i64)))))))).val (PastL M [] w w' (rf0 ++ ([]))) w' rn0 r.1 rf0 ∧ Own (Nw w []) (fun _ => True) w' (rf0 ++ ([]))) := by
 refine calls_fr Try.func41 rfl Try.ntmps41 (Nat.le_of_ble_eq_true rfl) ?_
 have hO := Own.start (N := Nw w []) hM Nw.fut
 have hC := Chg.refl [] w
 unfold s_impl_newChainer at hs
 refine wp_mono (Q := KPost (k_impl_newChainer M w r)) ?_ (fun e a s8 h => ?_)
 rotate_left
 ·cases e
  case ret =>
   obtain ⟨σ, rn0, rf0, rfl, hrest⟩ := h
   exact ret2x Try.results41 (res_tmp rfl) (res_tmp rfl) ⟨rn0, rf0, rfl, hrest⟩
  all_goals exact (h : False).elim
 refine c_sr ?_
 obtain ⟨m9, j7, s9, o9, n0, c9⟩ := new_block w [(.int .i64 a_.1), (.slice pa0 pn0 pc0)] 30
 refine pl_val (w' := m9) (.pointer (some ⟨j7, 0, none⟩)) (y_box rfl (by rw [s9, o9]; kernel_rfl)) ?_
 have h0 := h0.ext n0
 have hC := hC.ext n0
 have hO := hO.new1 n0 o9 c9.lt
 refine pl_val (.pointer none) (y_assign rfl) ?_
 refine pl_val (.bool false) (y_assign rfl) ?_
 refine c_nil ?_
 refine c_seq ?_
 refine c_seq ?_
 obtain ⟨s3, t0, hs⟩ := bind_some hs
 refine c_mid (I := fun a a4 => ∃ (σ : Nat → Value), a = fr 123 (ovl σ [(1, (.pointer (some ⟨j7, 0, none⟩))), (2, (.pointer none)), (3, (.bool false)), (16, (.bool s3))]) ∧ Chg [] m9 a4) ?_ ?_
 ·replace hs := t0
  have hMid := Chg.refl [] m9
  refine c_region ?_
  refine pl_val (.agg #[(.int .i64 a_.1), (.slice pa0 pn0 pc0)]) (y_load rfl ((box_load Ag30 Sz30 c9 [] [(.int .i64 a_.1), (.slice pa0 pn0 pc0)] [] rfl rfl (fun h => nomatch h)) _ (Chg.refl _ _))) ?_
  obtain ⟨r7, t1, hs⟩ := bind_some hs
  refine pl_call Bd81 rfl (c_impl_IsAlgebra (M := M) (a_.1, a_.2) h0 hO.fut t1) ?_
  rintro _ A9 ⟨rfl, k6⟩
  have h0 := h0.ext k6
  have c9 := c9.cn k6
  have hMid := hMid.ext k6
  have hC := hC.ext k6
  have hO := hO.ext k6
  refine pl_val (.bool (!r7)) (y_not rfl) ?_
  refine pl_val (.bool (!r7)) (y_move rfl) ?_
  rcases bif_some hs with ⟨i1, hs⟩ | ⟨i1, hs⟩
  ·skip
   refine pl_not (tg := 12) (by kernel_rfl) (congrArg Value.bool i1) ?_
   refine pl_not (tg := 12) (by kernel_rfl) (congrArg Value.bool i1) ?_
   refine pl_not (tg := 12) (by kernel_rfl) (congrArg Value.bool i1) ?_
   refine pl_val (.bool true) (y_pick_t (congrArg Value.bool i1) rfl) ?_
   refine c_nil ?_
   cases hs
   exact ⟨_, fr_ovl 123 ⟨rfl, rfl, rfl, rfl, trivial⟩, hMid⟩
  refine pl_yes (.pointer (some ⟨j7, 0, none⟩)) (tg := 12) (by kernel_rfl) (congrArg Value.bool i1) (y_faddr rfl Fa30x0) ?_
  refine pl_yes (.int .i64 a_.1) (tg := 12) (by kernel_rfl) (congrArg Value.bool i1) (y_load rfl ((box_load Ag3 Sz3 c9 [] [(.int .i64 a_.1)] [(.slice pa0 pn0 pc0)] rfl rfl (fun _ => rfl)) _ (Chg.refl _ _))) ?_
  refine pl_yes (.bool (decide (3 < a_.1))) (tg := 12) (by kernel_rfl) (congrArg Value.bool i1) (y_gtr rfl rfl) ?_
  refine pl_val (.bool (decide (3 < a_.1))) (y_pick_f (congrArg Value.bool i1) rfl) ?_
  refine c_nil ?_
  cases hs
  exact ⟨_, fr_ovl 123 ⟨rfl, rfl, rfl, rfl, trivial⟩, hMid⟩
 rintro p0 a4 ⟨σ, rfl, l6⟩
 have h0 := h0.ext l6
 have c9 := c9.cn l6
 have hC := hC.ext l6
 have hO := hO.ext l6
 rcases bif_some hs with ⟨n1, hs⟩ | ⟨n1, hs⟩
 ·refine c_condT (congrArg Value.bool n1) ?_
  refine c_sr ?_
  refine pl_val (.pointer none) (y_assign rfl) ?_
  refine pl_val (.bool false) (y_assign rfl) ?_
  refine c_nil ?_
  refine wp_ret ?_
  cases hs
  have hO := hO.drop
  have hO := hO.nil
  exact ⟨_, (.pointer none), [], fr_ovl 123 ⟨rfl, rfl, trivial⟩, hC, op_none, hO.top⟩
 refine c_condF (congrArg Value.bool n1) ?_
 refine wp_skip ?_
 refine c_sr ?_
 refine pl_val (.agg #[(.int .i64 a_.1), (.slice pa0 pn0 pc0)]) (y_load rfl ((box_load Ag30 Sz30 c9 [] [(.int .i64 a_.1), (.slice pa0 pn0 pc0)] [] rfl rfl (fun h => nomatch h)) _ (Chg.refl _ _))) ?_
 obtain ⟨r11, t2, hs⟩ := bind_some hs
 refine pl_call Bd82 rfl (c_impl_termFunctions (M := M) (a_.1, a_.2) 3 h0 hO.fut t2) ?_
 rintro _ a5 ⟨l7, a7, rfl, l8, n2, t3⟩
 have hO := hO.perm (R := [] ++ (([j7]) ++ ([]))) (by simp)
 have t4 := Own.pastL hO l8 t3
 have hK := (show KeepsF w [] M (PastL M [] a4 a5 (a7 ++ ([]))) from KeepsF.pastL hC.size (fun g hg => (hO.inN g hg)))
 have h0 := h0.ext l8
 have c9 := c9.cn l8
 have hC := hC.ext l8
 have hO := t4
 have h0 := h0.sub (M' := (PastL M [] a4 a5 (a7 ++ ([])))) (fun g hg => .inl hg.1)
 have hO := hO.perm (R := a7 ++ (([j7]) ++ ([]))) (by simp)
 refine pl_val (.tuple #[l7, (.bool r11.2)]) (y_move rfl) ?_
 refine pl_val l7 (y_extract rfl (by kernel_rfl)) ?_
 refine pl_val (.bool r11.2) (y_extract rfl (by kernel_rfl)) ?_
 refine pl_val l7 (y_assign rfl) ?_
 refine pl_val (.bool r11.2) (y_assign rfl) ?_
 refine c_nil ?_
 refine c_seq ?_
 refine c_sr ?_
 refine pl_val (.bool r11.2) (y_move rfl) ?_
 refine pl_val (.bool (!r11.2)) (y_not rfl) ?_
 refine c_nil ?_
 rcases bif_some hs with ⟨n3, hs⟩ | ⟨n3, hs⟩
 ·refine c_condT (congrArg Value.bool n3) ?_
  refine c_sr ?_
  refine pl_val (.pointer none) (y_assign rfl) ?_
  refine pl_val (.bool false) (y_assign rfl) ?_
  refine c_nil ?_
  refine wp_ret ?_
  cases hs
  have hO := hO.drop
  have hO := hO.drop
  have hO := hO.nil
  exact ⟨_, (.pointer none), [], fr_ovl 123 ⟨rfl, rfl, trivial⟩, hC, op_none, hO.top⟩
 refine c_condF (congrArg Value.bool n3) ?_
 refine wp_skip ?_
 refine c_seq ?_
 refine x_start [] Mx rfl ?_
 have k1 := Chg.drew a5
 generalize World.drew a5 = n4 at k1 ⊢
 have h0 := h0.ext k1
 have c9 := c9.cn k1
 have n2 := n2.ext k1
 have hC := hC.ext k1
 have hO := hO.ext k1
 have hS := Chg.refl [] n4
 refine x_p 0 (.pointer (some ⟨j7, 0, none⟩)) rfl (by kernel_rfl)  (fun _ => y_faddr rfl Fa30x0) (fun _ => hS) ?_
 refine x_l 1 (.int .i64 a_.1) rfl (by kernel_rfl)  (fun w' hw' => y_load rfl ((box_load Ag3 Sz3 c9 [] [(.int .i64 a_.1)] [(.slice pa0 pn0 pc0)] rfl rfl (fun _ => rfl)) w' hw')) hS ?_
 refine x_p 2 l7 rfl (by kernel_rfl)  (fun _ => y_move rfl) (fun _ => hS) ?_
 obtain ⟨p24, t5, hs⟩ := bind_some hs
 obtain ⟨l9, rfl, t6⟩ := op_get n2 t5
 obtain ⟨B0, B1, t7, k7, t8⟩ := po_open t6
 obtain ⟨B2, B3, b8, B4, rfl, rfl, t9, u0⟩ := t8
 obtain ⟨a9, b0, b1, rfl, a1⟩ := os_rel' t9
 obtain ⟨B5, B6, u1, u2, rfl, rfl, u3, u4⟩ := u0
 obtain ⟨p1, p2, p3, rfl, p4⟩ := os_rel' u3
 obtain ⟨p5, rfl, p6⟩ := mo_rel' u4
 have k7 : BoxV n4 l9 97 [(.slice a9 b0 b1), (.slice p1 p2 p3), (.map (some p5))] := k7
 have hO := hO.perm (R := ([l9]) ++ (b8 ++ (u1 ++ (u2 ++ (([j7]) ++ ([])))))) (by rw [t7]; simp)
 refine x_p 3 (.pointer (some ⟨l9, 0, none⟩)) rfl (by kernel_rfl)  (fun _ => y_nilc rfl) (fun _ => hS) ?_
 refine x_p 4 (.pointer (some ⟨l9, 0, none⟩)) rfl (by kernel_rfl)  (fun _ => y_faddr rfl Fa97x0) (fun _ => hS) ?_
 refine x_l 5 (.slice a9 b0 b1) rfl (by kernel_rfl)  (fun w' hw' => y_load rfl ((box_load Ag47 Sz47 k7 [] [(.slice a9 b0 b1)] [(.slice p1 p2 p3), (.map (some p5))] rfl rfl (fun _ => rfl)) w' hw')) hS ?_
 refine x_p 6 (.agg #[(.int .i64 a_.1), (.slice a9 b0 b1), (.slice none 0 0), (.slice none 0 0), (.slice none 0 0), (.int .i64 0), (.int .i64 0)]) rfl (by kernel_rfl)  (fun _ => y_build rfl (by kernel_rfl)) (fun _ => hS) ?_
 refine x_one (i := 7) (by kernel_rfl) ?_
 obtain ⟨u5, a0, u6, p7, g9, b2⟩ := new_block n4 [(.int .i64 a_.1), (.slice a9 b0 b1), (.slice none 0 0), (.slice none 0 0), (.slice none 0 0), (.int .i64 0), (.int .i64 0)] 58
 refine xk_val (w' := u5) (b := false) (.pointer (some ⟨a0, 0, none⟩)) rfl  (y_box rfl (by rw [u6, p7]; kernel_rfl)) rfl (fun _ => hS.ext g9) ?_
 have h0 := h0.ext g9
 have c9 := c9.cn g9
 have a1 := a1.ext g9
 have p4 := p4.ext g9
 have p6 := p6.ext g9
 have k7 := k7.cn g9
 have hC := hC.ext g9
 have hO := hO.new1 g9 p7 b2.lt
 have hS := hS.ext g9
 refine x_p 8 (.pointer (some ⟨a0, 0, none⟩)) rfl (by kernel_rfl)  (fun _ => y_assign rfl) (fun _ => hS) ?_
 refine x_end (by kernel_rfl) ?_
 clear hS
 refine c_seq ?_
 refine c_sr ?_
 refine pl_val (.pointer (some ⟨a0, 0, none⟩)) (y_move rfl) ?_
 refine pl_val (.pointer (some ⟨a0, 0, none⟩)) (y_nilc rfl) ?_
 refine pl_val (.pointer (some ⟨a0, 1, none⟩)) (y_faddr rfl Fa58x1) ?_
 refine pl_val (.slice a9 b0 b1) (y_load rfl ((box_load Ag47 Sz47 b2 [(.int .i64 a_.1)] [(.slice a9 b0 b1)] [(.slice none 0 0), (.slice none 0 0), (.slice none 0 0), (.int .i64 0), (.int .i64 0)] rfl rfl (fun _ => rfl)) _ (Chg.refl _ _))) ?_
 refine pl_val (.int .i64 (p24.1.length : Int)) (y_len' Sl47 (os_len a1) rfl) ?_
 refine pl_val (.int .i64 0) (y_move rfl) ?_
 refine c_nil ?_
 have hO := hO.fr1
 have hO := hO.drop
 have hO := hO.fr2
 have hO := hO.drop
 have hO := hO.fr2
 have hO := hO.drop
 have hO := hO.fr2
 have hO := hO.drop
 obtain ⟨o196, u7, hs⟩ := bind_some hs
 refine wp_block ?_
 refine wp_forR (id := 0) (I := fun i_ xs_ s192 a b7 => ∃ h1 : Nat, i_ = (h1 : Int) ∧ List.drop h1 p24.1 = xs_ ∧ (∃ (σ : Nat → Value) (h2 : Option Addr) (h3 : Nat) (h4 : Nat) (j8 : List Nat) (d4 : Option Addr) (d5 : Nat) (d6 : Nat) (i2 : List Nat) (b9 : Option Addr) (c0 : Nat) (c1 : Nat) (f2 : List Nat), a = fr 123 (ovl σ [(6, (.pointer (some ⟨a0, 0, none⟩))), (35, (.slice a9 b0 b1)), (36, (.int .i64 (p24.1.length : Int))), (37, (.int .i64 (h1 : Int)))]) ∧ Chg [] w b7 ∧ Own (Nw w []) (PastL M [] a4 a5 (a7 ++ ([]))) b7 (j8 ++ (i2 ++ (f2 ++ (([a0]) ++ (b8 ++ []))))) ∧ (RT.os 37 (RT.rs (RT.int .i64))).val (PastL M [] a4 a5 (a7 ++ ([]))) b7 (.slice a9 b0 b1) p24.1 b8 ∧ BoxV b7 a0 58 [(.int .i64 a_.1), (.slice a9 b0 b1), (.slice h2 h3 h4), (.slice d4 d5 d6), (.slice b9 c0 c1), (.int .i64 0), (.int .i64 0)] ∧ (RT.os 4 RT.bool).val (PastL M [] a4 a5 (a7 ++ ([]))) b7 (.slice h2 h3 h4) s192.1 j8 ∧ (RT.os 37 (RT.os 3 (RT.int .i64))).val (PastL M [] a4 a5 (a7 ++ ([]))) b7 (.slice d4 d5 d6) s192.2.1 i2 ∧ (RT.os 37 (RT.os 3 (RT.int .i64))).val (PastL M [] a4 a5 (a7 ++ ([]))) b7 (.slice b9 c0 c1) s192.2.2 f2)) (J := fun s192 a b7 => ∃ (σ : Nat → Value) (f3 : Option Addr) (f4 : Nat) (f5 : Nat) (i6 : List Nat) (f6 : Option Addr) (f7 : Nat) (f8 : Nat) (i7 : List Nat) (f9 : Option Addr) (g0 : Nat) (g1 : Nat) (i9 : List Nat), a = fr 123 (ovl σ [(6, (.pointer (some ⟨a0, 0, none⟩)))]) ∧ Chg [] w b7 ∧ Own (Nw w []) (PastL M [] a4 a5 (a7 ++ ([]))) b7 (i6 ++ (i7 ++ (i9 ++ (([a0]) ++ (b8 ++ []))))) ∧ (RT.os 37 (RT.rs (RT.int .i64))).val (PastL M [] a4 a5 (a7 ++ ([]))) b7 (.slice a9 b0 b1) p24.1 b8 ∧ BoxV b7 a0 58 [(.int .i64 a_.1), (.slice a9 b0 b1), (.slice f3 f4 f5), (.slice f6 f7 f8), (.slice f9 g0 g1), (.int .i64 0), (.int .i64 0)] ∧ (RT.os 4 RT.bool).val (PastL M [] a4 a5 (a7 ++ ([]))) b7 (.slice f3 f4 f5) s192.1 i6 ∧ (RT.os 37 (RT.os 3 (RT.int .i64))).val (PastL M [] a4 a5 (a7 ++ ([]))) b7 (.slice f6 f7 f8) s192.2.1 i7 ∧ (RT.os 37 (RT.os 3 (RT.int .i64))).val (PastL M [] a4 a5 (a7 ++ ([]))) b7 (.slice f9 g0 g1) s192.2.2 i9) (K := (k_impl_newChainer M w)) ?_ ?_ p24.1 0 ([], [], []) o196 _ _ ?_ u7 ?_
 ·rintro _ s192 a b7 ⟨h1, rfl, hd, σ, h2, h3, h4, j8, d4, d5, d6, i2, b9, c0, c1, f2, rfl, hC, hO, a1, b2, c6, b5, a3⟩
  have hlt := drop_nil_ge hd
  refine c_sr ?_
  refine pl_val (.bool (decide ((h1 : Int) < (p24.1.length : Int)))) (y_lss rfl rfl) ?_
  refine c_nil ?_
  refine c_seq ?_
  refine c_condF (congrArg Value.bool (decide_eq_false hlt)) ?_
  refine wp_exit ?_
  have hO := hO.fr4
  have hO := hO.fr4
  have hO := hO.fr4
  have hO := hO.fr4
  have hO := hO.fr4
  exact ⟨rfl, _, h2, h3, h4, j8, d4, d5, d6, i2, b9, c0, c1, f2, fr_ovl 123 ⟨rfl, trivial⟩, hC, hO, a1, b2, c6, b5, a3⟩
 ·rintro _ x195 xs_ s192 o196 a b7 ⟨h1, rfl, hd, σ, h2, h3, h4, j8, d4, d5, d6, i2, b9, c0, c1, f2, rfl, hC, hO, a1, b2, c6, b5, a3⟩ hs
  have hlt := drop_cons_lt hd
  have u9 := drop_cons_idx hd
  refine c_sr ?_
  refine pl_val (.bool (decide ((h1 : Int) < (p24.1.length : Int)))) (y_lss rfl rfl) ?_
  refine c_nil ?_
  refine c_seq ?_
  refine c_condT (congrArg Value.bool (decide_eq_true hlt)) ?_
  refine wp_skip ?_
  refine c_seq ?_
  refine wp_block ?_
  refine c_sr ?_
  obtain ⟨v0, B7, B8, B9, v1, v2, C0⟩ := os_idx Sl47 Sz37 a1 u9
  have v3 := rd_row Rd.rs v2
  refine pl_val (.pointer (some ⟨v0, 0 + Int.toNat (h1 : Int) * 1, none⟩)) (v1 _ _ _ _ _ _ _ _ _ rfl rfl) ?_
  obtain ⟨C1, v4, a2⟩ := at_load Ag37 Sz37 (fun _ => rfl) v3
  obtain ⟨k8, k9, l0, rfl⟩ := rs_sl a2
  refine pl_val (.slice k8 k9 l0) (y_load rfl (v4 _ (Chg.refl _ _))) ?_
  refine pl_val (.slice k8 k9 l0) (y_assign rfl) ?_
  refine c_nil ?_
  refine c_seq ?_
  refine x_start [19, 22] Mx rfl ?_
  have i3 := Chg.drew b7
  generalize World.drew b7 = p8 at i3 ⊢
  have a1 := a1.ext i3
  have b2 := b2.cn i3
  have c6 := c6.ext i3
  have b5 := b5.ext i3
  have a3 := a3.ext i3
  have a2 := a2.ext i3
  have hC := hC.ext i3
  have hO := hO.ext i3
  have hS := Chg.refl [] p8
  refine x_p 0 (.pointer (some ⟨a0, 0, none⟩)) rfl (by kernel_rfl)  (fun _ => y_move rfl) (fun _ => hS) ?_
  refine x_p 1 (.pointer (some ⟨a0, 0, none⟩)) rfl (by kernel_rfl)  (fun _ => y_move rfl) (fun _ => hS) ?_
  refine x_p 2 (.pointer (some ⟨a0, 0, none⟩)) rfl (by kernel_rfl)  (fun _ => y_nilc rfl) (fun _ => hS) ?_
  refine x_p 3 (.pointer (some ⟨a0, 2, none⟩)) rfl (by kernel_rfl)  (fun _ => y_faddr rfl Fa58x2) (fun _ => hS) ?_
  refine x_l 4 (.slice h2 h3 h4) rfl (by kernel_rfl)  (fun w' hw' => y_load rfl ((box_load Ag56 Sz56 b2 [(.int .i64 a_.1), (.slice a9 b0 b1)] [(.slice h2 h3 h4)] [(.slice d4 d5 d6), (.slice b9 c0 c1), (.int .i64 0), (.int .i64 0)] rfl rfl (fun _ => rfl)) w' hw')) hS ?_
  refine x_p 5 (.pointer (some ⟨a0, 0, none⟩)) rfl (by kernel_rfl)  (fun _ => y_move rfl) (fun _ => hS) ?_
  refine x_p 6 (.pointer (some ⟨a0, 0, none⟩)) rfl (by kernel_rfl)  (fun _ => y_nilc rfl) (fun _ => hS) ?_
  refine x_p 7 (.pointer (some ⟨a0, 0, none⟩)) rfl (by kernel_rfl)  (fun _ => y_faddr rfl Fa58x0) (fun _ => hS) ?_
  refine x_l 8 (.int .i64 a_.1) rfl (by kernel_rfl)  (fun w' hw' => y_load rfl ((box_load Ag3 Sz3 b2 [] [(.int .i64 a_.1)] [(.slice a9 b0 b1), (.slice h2 h3 h4), (.slice d4 d5 d6), (.slice b9 c0 c1), (.int .i64 0), (.int .i64 0)] rfl rfl (fun _ => rfl)) w' hw')) hS ?_
  refine x_p 9 (.slice k8 k9 l0) rfl (by kernel_rfl)  (fun _ => y_move rfl) (fun _ => hS) ?_
  refine x_p 12 (.pointer (some ⟨a0, 0, none⟩)) rfl (by kernel_rfl)  (fun _ => y_move rfl) (fun _ => hS) ?_
  refine x_p 13 (.pointer (some ⟨a0, 0, none⟩)) rfl (by kernel_rfl)  (fun _ => y_nilc rfl) (fun _ => hS) ?_
  refine x_p 14 (.pointer (some ⟨a0, 0, none⟩)) rfl (by kernel_rfl)  (fun _ => y_faddr rfl Fa58x0) (fun _ => hS) ?_
  refine x_l 15 (.int .i64 a_.1) rfl (by kernel_rfl)  (fun w' hw' => y_load rfl ((box_load Ag3 Sz3 b2 [] [(.int .i64 a_.1)] [(.slice a9 b0 b1), (.slice h2 h3 h4), (.slice d4 d5 d6), (.slice b9 c0 c1), (.int .i64 0), (.int .i64 0)] rfl rfl (fun _ => rfl)) w' hw')) hS ?_
  refine x_one (i := 10) (by kernel_rfl) ?_
  obtain ⟨p9, h5, v5, q0, h6, q1⟩ := new_block p8 [(.int .i64 0), (.int .i64 1), (.int .i64 0)] 3
  refine xk_val (w' := p9) (b := false) (.slice (some ⟨h5, 0, none⟩) 3 3) rfl  (y_bslice rfl (by rw [v5, q0]; kernel_rfl)) rfl (fun _ => hS.ext h6) ?_
  have a1 := a1.ext h6
  have b2 := b2.cn h6
  have c6 := c6.ext h6
  have b5 := b5.ext h6
  have a3 := a3.ext h6
  have a2 := a2.ext h6
  have hC := hC.ext h6
  have hO := hO.new1 h6 q0 q1.lt
  have a6 := os_of_box (r := (RT.int .i64)) (M := (PastL M [] a4 a5 (a7 ++ ([])))) (css := [[(.int .i64 0)], [(.int .i64 1)], [(.int .i64 0)]]) (fps := [([] : List Nat), ([] : List Nat), ([] : List Nat)]) (xs := ([0, 1, 0] : List Int)) q1 ⟨⟨rfl, rfl⟩, ⟨⟨rfl, rfl⟩, ⟨⟨rfl, rfl⟩, trivial⟩⟩⟩ (Nat.le_of_ble_eq_true rfl) (List.nodup_cons.2 ⟨(fun h => nomatch h), List.nodup_nil⟩)
  have a6 : (RT.os 3 (RT.int .i64)).val (PastL M [] a4 a5 (a7 ++ ([]))) p9 (.slice (some ⟨h5, 0, none⟩) 3 3) [0, 1, 0] [h5] := a6
  have hS := hS.ext h6
  refine x_one (i := 11) (by kernel_rfl) ?_
  obtain ⟨r234, v6, hs⟩ := bind_some hs
  refine xk_call (b := false) rfl  Bd46 rfl (c_impl_valuesAt (M := (Less (PastL M [] a4 a5 (a7 ++ ([]))) ([h5]))) a_.1 x195 ([0, 1, 0]) (a2.sub Less.sub) (((Frz.os Frz.int)).val a6 Less.sub Less.not) hO.less.fut v6) rfl (by rintro _ _ _ ⟨v7, v8, v9, j0, rfl, e4, a8, q2⟩; exact hS.ext e4) ?_
  rintro _ C2 ⟨v7, v8, v9, j0, rfl, e4, a8, q2⟩
  have a1 := a1.ext e4
  have b2 := b2.cn e4
  have c6 := c6.ext e4
  have b5 := b5.ext e4
  have a3 := a3.ext e4
  have a2 := a2.ext e4
  have a6 := a6.ext e4
  have hC := hC.ext e4
  have hO := Own.join0 hO e4 q2
  have hO := hO.perm (R := j0 ++ (([h5]) ++ (j8 ++ (i2 ++ (f2 ++ (([a0]) ++ (b8 ++ ([])))))))) (by simp)
  have a8 := a8.free (M' := (PastL M [] a4 a5 (a7 ++ ([])))) (Free.os Free.int)
  have hS := hS.ext e4
  refine x_one (i := 16) (by kernel_rfl) ?_
  obtain ⟨r237, w1, hs⟩ := bind_some hs
  refine xk_call (b := false) rfl  Bd42 rfl (c_impl_firsts (M := (PastL M [] a4 a5 (a7 ++ ([])))) a_.1  hO.fut w1) rfl (by rintro _ _ _ ⟨w2, w3, w4, j9, rfl, e0, b3, q3⟩; exact hS.ext e0) ?_
  rintro _ C3 ⟨w2, w3, w4, j9, rfl, e0, b3, q3⟩
  have a1 := a1.ext e0
  have b2 := b2.cn e0
  have c6 := c6.ext e0
  have b5 := b5.ext e0
  have a3 := a3.ext e0
  have a2 := a2.ext e0
  have a6 := a6.ext e0
  have a8 := a8.ext e0
  have hC := hC.ext e0
  have hO := Own.join0 hO e0 q3
  have hO := hO.perm (R := j9 ++ (j0 ++ (([h5]) ++ (j8 ++ (i2 ++ (f2 ++ (([a0]) ++ (b8 ++ ([]))))))))) (by simp)
  have hS := hS.ext e0
  refine x_one (i := 17) (by kernel_rfl) ?_
  have hO := hO.fr1
  obtain ⟨r240, w5, hs⟩ := bind_some hs
  refine xk_call (b := false) rfl  Bd45 rfl (c_impl_sameList (M := (Less (Less (PastL M [] a4 a5 (a7 ++ ([]))) j0) j9)) r234 r237 ((((Frz.os Frz.int)).val a8 Less.sub Less.not).sub Less.sub) (((Frz.os Frz.int)).val (b3.sub Less.sub) Less.sub Less.not) (hO.less).less.fut w5) rfl (by rintro _ _ _ ⟨rfl, d7⟩; exact hS.ext d7) ?_
  rintro _ w6 ⟨rfl, d7⟩
  have a1 := a1.ext d7
  have b2 := b2.cn d7
  have c6 := c6.ext d7
  have b5 := b5.ext d7
  have a3 := a3.ext d7
  have a2 := a2.ext d7
  have a6 := a6.ext d7
  have a8 := a8.ext d7
  have b3 := b3.ext d7
  have hC := hC.ext d7
  have hO := hO.ext d7
  have hS := hS.ext d7
  refine x_one (i := 18) (by kernel_rfl) ?_
  obtain ⟨q4, n5, w7, q5, e1, q6⟩ := new_block w6 [(.bool r240)] 4
  refine xk_val (w' := q4) (b := false) (.slice (some ⟨n5, 0, none⟩) 1 1) rfl  (y_bslice rfl (by rw [w7, q5]; kernel_rfl)) rfl (fun _ => hS.ext e1) ?_
  have a1 := a1.ext e1
  have b2 := b2.cn e1
  have c6 := c6.ext e1
  have b5 := b5.ext e1
  have a3 := a3.ext e1
  have a2 := a2.ext e1
  have a6 := a6.ext e1
  have a8 := a8.ext e1
  have b3 := b3.ext e1
  have hC := hC.ext e1
  have hO := hO.new1 e1 q5 q6.lt
  have n6 := os_of_box (r := RT.bool) (M := (PastL M [] a4 a5 (a7 ++ ([])))) (css := [[(.bool r240)]]) (fps := [([] : List Nat)]) (xs := ([r240] : List Bool)) q6 ⟨⟨rfl, rfl⟩, trivial⟩ (Nat.le_of_ble_eq_true rfl) (List.nodup_cons.2 ⟨(fun h => nomatch h), List.nodup_nil⟩)
  have n6 : (RT.os 4 RT.bool).val (PastL M [] a4 a5 (a7 ++ ([]))) q4 (.slice (some ⟨n5, 0, none⟩) 1 1) [r240] [n5] := n6
  have hS := hS.ext e1
  refine x_one (i := 19) (by kernel_rfl) ?_
  obtain ⟨y244, w8, hs⟩ := bind_some hs
  have hO := hO.fr4
  obtain ⟨e5, e6, e7, w9, l1, x0, h7, x1, b4⟩ := app_os Rw56 w8 c6 n6 hO.inM (fun g hg hq => hO.apart g hq (mem_l hg))
  have i4 := os_block c6
  refine xk_val (w' := w9) (b := true) (.slice e5 e6 e7) rfl  (y_append rfl rfl (x0 _)) rfl (fun h => nomatch h) ?_
  have hO := hO.fr1
  have hO := hO.fr1
  have a1 := a1.ma h7 hO i4 (fun _ e => (mem_r (mem_r (mem_r (mem_r (mem_r (mem_r (mem_r (mem_l (e))))))))))
  have b2 := b2.ap h7 hO i4 (mem_r (mem_r (mem_r (mem_r (mem_r (mem_r (mem_l (List.mem_singleton.2 rfl))))))))
  have b5 := b5.ma h7 hO i4 (fun _ e => (mem_r (mem_r (mem_r (mem_r (mem_l (e)))))))
  have a3 := a3.ma h7 hO i4 (fun _ e => (mem_r (mem_r (mem_r (mem_r (mem_r (mem_l (e))))))))
  have a2 := a2.mt h7 hO i4
  have a6 := a6.ma h7 hO i4 (fun _ e => (mem_r (mem_r (mem_r (mem_l (e))))))
  have a8 := a8.ma h7 hO i4 (fun _ e => (mem_r (mem_l (e))))
  have b3 := b3.ma h7 hO i4 (fun _ e => (mem_r (mem_r (mem_l (e)))))
  have hC := hC.st h7 hO i4
  have hO := hO.eat h7 x1 (os_nodup b4) b4.fpl
  refine x_p 20 (.pointer (some ⟨a0, 0, none⟩)) rfl (by kernel_rfl)  (fun _ => y_nilc rfl) (fun h => nomatch h) ?_
  refine x_p 21 (.pointer (some ⟨a0, 2, none⟩)) rfl (by kernel_rfl)  (fun _ => y_faddr rfl Fa58x2) (fun h => nomatch h) ?_
  refine x_one (i := 22) (by kernel_rfl) ?_
  obtain ⟨m0, x2, h8, d0⟩ := box_store (P := Try.prog) b2 [(.int .i64 a_.1), (.slice a9 b0 b1)] [(.slice h2 h3 h4)] [(.slice d4 d5 d6), (.slice b9 c0 c1), (.int .i64 0), (.int .i64 0)] [(.slice e5 e6 e7)] rfl rfl (by intro u hu; simp only [List.mem_cons, List.not_mem_nil, or_false] at hu; rcases hu with rfl <;> rfl)
  refine xk_skip (w' := m0) (b := true) rfl (ys_store rfl rfl (x2 _ _ rfl Sz56)) rfl (fun h => nomatch h) ?_
  have hO := hO.fr6
  have a1 := a1.ma h8 hO same_ (fun _ e => (mem_r (mem_r (mem_r (mem_r (mem_r (mem_r (mem_l (e)))))))))
  have b5 := b5.ma h8 hO same_ (fun _ e => (mem_r (mem_r (mem_r (mem_r (mem_l (e)))))))
  have a3 := a3.ma h8 hO same_ (fun _ e => (mem_r (mem_r (mem_r (mem_r (mem_r (mem_l (e))))))))
  have a2 := a2.mt h8 hO same_
  have a6 := a6.ma h8 hO same_ (fun _ e => (mem_r (mem_r (mem_r (mem_l (e))))))
  have a8 := a8.ma h8 hO same_ (fun _ e => (mem_r (mem_l (e))))
  have b3 := b3.ma h8 hO same_ (fun _ e => (mem_r (mem_r (mem_l (e)))))
  have b4 := b4.ma h8 hO same_ (fun _ e => (mem_l (e)))
  have hC := hC.st h8 hO same_
  have hO := hO.ext h8
  have d0 : BoxV m0 a0 58 [(.int .i64 a_.1), (.slice a9 b0 b1), (.slice e5 e6 e7), (.slice d4 d5 d6), (.slice b9 c0 c1), (.int .i64 0), (.int .i64 0)] := d0
  refine x_end (by kernel_rfl) ?_
  clear hS
  refine c_seq ?_
  refine x_start [13, 16] Mx rfl ?_
  have e8 := Chg.drew m0
  generalize World.drew m0 = q7 at e8 ⊢
  have a1 := a1.ext e8
  have d0 := d0.cn e8
  have b5 := b5.ext e8
  have a3 := a3.ext e8
  have a2 := a2.ext e8
  have a6 := a6.ext e8
  have a8 := a8.ext e8
  have b3 := b3.ext e8
  have b4 := b4.ext e8
  have hC := hC.ext e8
  have hO := hO.ext e8
  have hS := Chg.refl [] q7
  refine x_p 0 (.pointer (some ⟨a0, 0, none⟩)) rfl (by kernel_rfl)  (fun _ => y_move rfl) (fun _ => hS) ?_
  refine x_p 1 (.pointer (some ⟨a0, 0, none⟩)) rfl (by kernel_rfl)  (fun _ => y_move rfl) (fun _ => hS) ?_
  refine x_p 2 (.pointer (some ⟨a0, 0, none⟩)) rfl (by kernel_rfl)  (fun _ => y_nilc rfl) (fun _ => hS) ?_
  refine x_p 3 (.pointer (some ⟨a0, 3, none⟩)) rfl (by kernel_rfl)  (fun _ => y_faddr rfl Fa58x3) (fun _ => hS) ?_
  refine x_l 4 (.slice d4 d5 d6) rfl (by kernel_rfl)  (fun w' hw' => y_load rfl ((box_load Ag47 Sz47 d0 [(.int .i64 a_.1), (.slice a9 b0 b1), (.slice e5 e6 e7)] [(.slice d4 d5 d6)] [(.slice b9 c0 c1), (.int .i64 0), (.int .i64 0)] rfl rfl (fun _ => rfl)) w' hw')) hS ?_
  refine x_p 5 (.pointer (some ⟨a0, 0, none⟩)) rfl (by kernel_rfl)  (fun _ => y_move rfl) (fun _ => hS) ?_
  refine x_p 6 (.pointer (some ⟨a0, 0, none⟩)) rfl (by kernel_rfl)  (fun _ => y_nilc rfl) (fun _ => hS) ?_
  refine x_p 7 (.pointer (some ⟨a0, 0, none⟩)) rfl (by kernel_rfl)  (fun _ => y_faddr rfl Fa58x0) (fun _ => hS) ?_
  refine x_l 8 (.int .i64 a_.1) rfl (by kernel_rfl)  (fun w' hw' => y_load rfl ((box_load Ag3 Sz3 d0 [] [(.int .i64 a_.1)] [(.slice a9 b0 b1), (.slice e5 e6 e7), (.slice d4 d5 d6), (.slice b9 c0 c1), (.int .i64 0), (.int .i64 0)] rfl rfl (fun _ => rfl)) w' hw')) hS ?_
  refine x_p 9 (.slice k8 k9 l0) rfl (by kernel_rfl)  (fun _ => y_move rfl) (fun _ => hS) ?_
  refine x_one (i := 10) (by kernel_rfl) ?_
  obtain ⟨q8, j1, x3, q9, e2, r0⟩ := new_block q7 [(.int .i64 0), (.int .i64 0), (.int .i64 1)] 3
  refine xk_val (w' := q8) (b := false) (.slice (some ⟨j1, 0, none⟩) 3 3) rfl  (y_bslice rfl (by rw [x3, q9]; kernel_rfl)) rfl (fun _ => hS.ext e2) ?_
  have a1 := a1.ext e2
  have d0 := d0.cn e2
  have b5 := b5.ext e2
  have a3 := a3.ext e2
  have a2 := a2.ext e2
  have a6 := a6.ext e2
  have a8 := a8.ext e2
  have b3 := b3.ext e2
  have b4 := b4.ext e2
  have hC := hC.ext e2
  have hO := hO.new1 e2 q9 r0.lt
  have b6 := os_of_box (r := (RT.int .i64)) (M := (PastL M [] a4 a5 (a7 ++ ([])))) (css := [[(.int .i64 0)], [(.int .i64 0)], [(.int .i64 1)]]) (fps := [([] : List Nat), ([] : List Nat), ([] : List Nat)]) (xs := ([0, 0, 1] : List Int)) r0 ⟨⟨rfl, rfl⟩, ⟨⟨rfl, rfl⟩, ⟨⟨rfl, rfl⟩, trivial⟩⟩⟩ (Nat.le_of_ble_eq_true rfl) (List.nodup_cons.2 ⟨(fun h => nomatch h), List.nodup_nil⟩)
  have b6 : (RT.os 3 (RT.int .i64)).val (PastL M [] a4 a5 (a7 ++ ([]))) q8 (.slice (some ⟨j1, 0, none⟩) 3 3) [0, 0, 1] [j1] := b6
  have hS := hS.ext e2
  refine x_one (i := 11) (by kernel_rfl) ?_
  obtain ⟨r263, x4, hs⟩ := bind_some hs
  refine xk_call (b := false) rfl  Bd46 rfl (c_impl_valuesAt (M := (Less (PastL M [] a4 a5 (a7 ++ ([]))) ([j1]))) a_.1 x195 ([0, 0, 1]) (a2.sub Less.sub) (((Frz.os Frz.int)).val b6 Less.sub Less.not) hO.less.fut x4) rfl (by rintro _ _ _ ⟨n7, n8, n9, l2, rfl, d1, k2, r1⟩; exact hS.ext d1) ?_
  rintro _ x5 ⟨n7, n8, n9, l2, rfl, d1, k2, r1⟩
  have a1 := a1.ext d1
  have d0 := d0.cn d1
  have b5 := b5.ext d1
  have a3 := a3.ext d1
  have a2 := a2.ext d1
  have a6 := a6.ext d1
  have a8 := a8.ext d1
  have b3 := b3.ext d1
  have b4 := b4.ext d1
  have b6 := b6.ext d1
  have hC := hC.ext d1
  have hO := Own.join0 hO d1 r1
  have hO := hO.perm (R := l2 ++ (([j1]) ++ (([a0]) ++ (l1 ++ (j0 ++ (j9 ++ (([h5]) ++ (i2 ++ (f2 ++ (b8 ++ ([]))))))))))) (by simp)
  have k2 := k2.free (M' := (PastL M [] a4 a5 (a7 ++ ([])))) (Free.os Free.int)
  have hS := hS.ext d1
  refine x_one (i := 12) (by kernel_rfl) ?_
  obtain ⟨r2, m1, x6, r3, d2, r4⟩ := new_block x5 [(.slice n7 n8 n9)] 37
  refine xk_val (w' := r2) (b := false) (.slice (some ⟨m1, 0, none⟩) 1 1) rfl  (y_bslice rfl (by rw [x6, r3]; kernel_rfl)) rfl (fun _ => hS.ext d2) ?_
  have a1 := a1.ext d2
  have d0 := d0.cn d2
  have b5 := b5.ext d2
  have a3 := a3.ext d2
  have a2 := a2.ext d2
  have a6 := a6.ext d2
  have a8 := a8.ext d2
  have b3 := b3.ext d2
  have b4 := b4.ext d2
  have b6 := b6.ext d2
  have k2 := k2.ext d2
  have hC := hC.ext d2
  have hO := hO.new1 d2 r3 r4.lt
  have hO := hO.perm (R := (m1 :: ((l2) ++ ([]))) ++ (([j1]) ++ (([a0]) ++ (l1 ++ (j0 ++ (j9 ++ (([h5]) ++ (i2 ++ (f2 ++ (b8 ++ ([]))))))))))) (by simp)
  have x7 := hO.nd
  have o0 := os_of_box (r := (RT.os 3 (RT.int .i64))) (M := (PastL M [] a4 a5 (a7 ++ ([])))) (css := [[(.slice n7 n8 n9)]]) (fps := [(l2 : List Nat)]) (xs := ([r263] : List (List Int))) r4 ⟨(os_unval k2), trivial⟩ (Nat.le_of_ble_eq_true rfl) x7
  have o0 : (RT.os 37 (RT.os 3 (RT.int .i64))).val (PastL M [] a4 a5 (a7 ++ ([]))) r2 (.slice (some ⟨m1, 0, none⟩) 1 1) [r263] (m1 :: ((l2) ++ ([]))) := o0
  have hS := hS.ext d2
  refine x_one (i := 13) (by kernel_rfl) ?_
  obtain ⟨y268, x8, hs⟩ := bind_some hs
  have hO := hO.fr7
  obtain ⟨j2, j3, j4, x9, o1, y0, g2, y1, c2⟩ := app_os Rw47 x8 b5 o0 hO.inM (fun g hg hq => hO.apart g hq (mem_l hg))
  have h9 := os_block b5
  refine xk_val (w' := x9) (b := true) (.slice j2 j3 j4) rfl  (y_append rfl rfl (y0 _)) rfl (fun h => nomatch h) ?_
  have hO := hO.fr1
  have hO := hO.fr1
  have a1 := a1.ma g2 hO h9 (fun _ e => (mem_r (mem_r (mem_r (mem_r (mem_r (mem_r (mem_r (mem_r (mem_l (e)))))))))))
  have d0 := d0.ap g2 hO h9 (mem_r (mem_r (mem_l (List.mem_singleton.2 rfl))))
  have a3 := a3.ma g2 hO h9 (fun _ e => (mem_r (mem_r (mem_r (mem_r (mem_r (mem_r (mem_r (mem_l (e))))))))))
  have a2 := a2.mt g2 hO h9
  have a6 := a6.ma g2 hO h9 (fun _ e => (mem_r (mem_r (mem_r (mem_r (mem_r (mem_r (mem_l (e)))))))))
  have a8 := a8.ma g2 hO h9 (fun _ e => (mem_r (mem_r (mem_r (mem_r (mem_l (e)))))))
  have b3 := b3.ma g2 hO h9 (fun _ e => (mem_r (mem_r (mem_r (mem_r (mem_r (mem_l (e))))))))
  have b4 := b4.ma g2 hO h9 (fun _ e => (mem_r (mem_r (mem_r (mem_l (e))))))
  have b6 := b6.ma g2 hO h9 (fun _ e => (mem_r (mem_l (e))))
  have hC := hC.st g2 hO h9
  have hO := hO.eat g2 y1 (os_nodup c2) c2.fpl
  refine x_p 14 (.pointer (some ⟨a0, 0, none⟩)) rfl (by kernel_rfl)  (fun _ => y_nilc rfl) (fun h => nomatch h) ?_
  refine x_p 15 (.pointer (some ⟨a0, 3, none⟩)) rfl (by kernel_rfl)  (fun _ => y_faddr rfl Fa58x3) (fun h => nomatch h) ?_
  refine x_one (i := 16) (by kernel_rfl) ?_
  obtain ⟨m2, y2, g3, d3⟩ := box_store (P := Try.prog) d0 [(.int .i64 a_.1), (.slice a9 b0 b1), (.slice e5 e6 e7)] [(.slice d4 d5 d6)] [(.slice b9 c0 c1), (.int .i64 0), (.int .i64 0)] [(.slice j2 j3 j4)] rfl rfl (by intro u hu; simp only [List.mem_cons, List.not_mem_nil, or_false] at hu; rcases hu with rfl <;> rfl)
  refine xk_skip (w' := m2) (b := true) rfl (ys_store rfl rfl (y2 _ _ rfl Sz47)) rfl (fun h => nomatch h) ?_
  have hO := hO.fr2
  have a1 := a1.ma g3 hO same_ (fun _ e => (mem_r (mem_r (mem_r (mem_r (mem_r (mem_r (mem_r (mem_l (e))))))))))
  have a3 := a3.ma g3 hO same_ (fun _ e => (mem_r (mem_r (mem_r (mem_r (mem_r (mem_r (mem_l (e)))))))))
  have a2 := a2.mt g3 hO same_
  have a6 := a6.ma g3 hO same_ (fun _ e => (mem_r (mem_r (mem_r (mem_r (mem_r (mem_l (e))))))))
  have a8 := a8.ma g3 hO same_ (fun _ e => (mem_r (mem_r (mem_r (mem_l (e))))))
  have b3 := b3.ma g3 hO same_ (fun _ e => (mem_r (mem_r (mem_r (mem_r (mem_l (e)))))))
  have b4 := b4.ma g3 hO same_ (fun _ e => (mem_r (mem_r (mem_l (e)))))
  have b6 := b6.ma g3 hO same_ (fun _ e => (mem_r (mem_l (e))))
  have c2 := c2.ma g3 hO same_ (fun _ e => (mem_l (e)))
  have hC := hC.st g3 hO same_
  have hO := hO.ext g3
  have d3 : BoxV m2 a0 58 [(.int .i64 a_.1), (.slice a9 b0 b1), (.slice e5 e6 e7), (.slice j2 j3 j4), (.slice b9 c0 c1), (.int .i64 0), (.int .i64 0)] := d3
  refine x_end (by kernel_rfl) ?_
  clear hS
  refine x_start [13, 16] Mx rfl ?_
  have e3 := Chg.drew m2
  generalize World.drew m2 = r5 at e3 ⊢
  have a1 := a1.ext e3
  have d3 := d3.cn e3
  have a3 := a3.ext e3
  have a2 := a2.ext e3
  have a6 := a6.ext e3
  have a8 := a8.ext e3
  have b3 := b3.ext e3
  have b4 := b4.ext e3
  have b6 := b6.ext e3
  have c2 := c2.ext e3
  have hC := hC.ext e3
  have hO := hO.ext e3
  have hS := Chg.refl [] r5
  refine x_p 0 (.pointer (some ⟨a0, 0, none⟩)) rfl (by kernel_rfl)  (fun _ => y_move rfl) (fun _ => hS) ?_
  refine x_p 1 (.pointer (some ⟨a0, 0, none⟩)) rfl (by kernel_rfl)  (fun _ => y_move rfl) (fun _ => hS) ?_
  refine x_p 2 (.pointer (some ⟨a0, 0, none⟩)) rfl (by kernel_rfl)  (fun _ => y_nilc rfl) (fun _ => hS) ?_
  refine x_p 3 (.pointer (some ⟨a0, 4, none⟩)) rfl (by kernel_rfl)  (fun _ => y_faddr rfl Fa58x4) (fun _ => hS) ?_
  refine x_l 4 (.slice b9 c0 c1) rfl (by kernel_rfl)  (fun w' hw' => y_load rfl ((box_load Ag47 Sz47 d3 [(.int .i64 a_.1), (.slice a9 b0 b1), (.slice e5 e6 e7), (.slice j2 j3 j4)] [(.slice b9 c0 c1)] [(.int .i64 0), (.int .i64 0)] rfl rfl (fun _ => rfl)) w' hw')) hS ?_
  refine x_p 5 (.pointer (some ⟨a0, 0, none⟩)) rfl (by kernel_rfl)  (fun _ => y_move rfl) (fun _ => hS) ?_
  refine x_p 6 (.pointer (some ⟨a0, 0, none⟩)) rfl (by kernel_rfl)  (fun _ => y_nilc rfl) (fun _ => hS) ?_
  refine x_p 7 (.pointer (some ⟨a0, 0, none⟩)) rfl (by kernel_rfl)  (fun _ => y_faddr rfl Fa58x0) (fun _ => hS) ?_
  refine x_l 8 (.int .i64 a_.1) rfl (by kernel_rfl)  (fun w' hw' => y_load rfl ((box_load Ag3 Sz3 d3 [] [(.int .i64 a_.1)] [(.slice a9 b0 b1), (.slice e5 e6 e7), (.slice j2 j3 j4), (.slice b9 c0 c1), (.int .i64 0), (.int .i64 0)] rfl rfl (fun _ => rfl)) w' hw')) hS ?_
  refine x_p 9 (.slice k8 k9 l0) rfl (by kernel_rfl)  (fun _ => y_move rfl) (fun _ => hS) ?_
  refine x_one (i := 10) (by kernel_rfl) ?_
  obtain ⟨r6, k3, y3, r8, d8, r9⟩ := new_block r5 [(.int .i64 0), (.int .i64 1), (.int .i64 1)] 3
  refine xk_val (w' := r6) (b := false) (.slice (some ⟨k3, 0, none⟩) 3 3) rfl  (y_bslice rfl (by rw [y3, r8]; kernel_rfl)) rfl (fun _ => hS.ext d8) ?_
  have a1 := a1.ext d8
  have d3 := d3.cn d8
  have a3 := a3.ext d8
  have a2 := a2.ext d8
  have a6 := a6.ext d8
  have a8 := a8.ext d8
  have b3 := b3.ext d8
  have b4 := b4.ext d8
  have b6 := b6.ext d8
  have c2 := c2.ext d8
  have hC := hC.ext d8
  have hO := hO.new1 d8 r8 r9.lt
  have g4 := os_of_box (r := (RT.int .i64)) (M := (PastL M [] a4 a5 (a7 ++ ([])))) (css := [[(.int .i64 0)], [(.int .i64 1)], [(.int .i64 1)]]) (fps := [([] : List Nat), ([] : List Nat), ([] : List Nat)]) (xs := ([0, 1, 1] : List Int)) r9 ⟨⟨rfl, rfl⟩, ⟨⟨rfl, rfl⟩, ⟨⟨rfl, rfl⟩, trivial⟩⟩⟩ (Nat.le_of_ble_eq_true rfl) (List.nodup_cons.2 ⟨(fun h => nomatch h), List.nodup_nil⟩)
  have g4 : (RT.os 3 (RT.int .i64)).val (PastL M [] a4 a5 (a7 ++ ([]))) r6 (.slice (some ⟨k3, 0, none⟩) 3 3) [0, 1, 1] [k3] := g4
  have hS := hS.ext d8
  refine x_one (i := 11) (by kernel_rfl) ?_
  obtain ⟨r275, y4, hs⟩ := bind_some hs
  refine xk_call (b := false) rfl  Bd46 rfl (c_impl_valuesAt (M := (Less (PastL M [] a4 a5 (a7 ++ ([]))) ([k3]))) a_.1 x195 ([0, 1, 1]) (a2.sub Less.sub) (((Frz.os Frz.int)).val g4 Less.sub Less.not) hO.less.fut y4) rfl (by rintro _ _ _ ⟨o2, o3, o4, l3, rfl, c7, k4, s0⟩; exact hS.ext c7) ?_
  rintro _ y5 ⟨o2, o3, o4, l3, rfl, c7, k4, s0⟩
  have a1 := a1.ext c7
  have d3 := d3.cn c7
  have a3 := a3.ext c7
  have a2 := a2.ext c7
  have a6 := a6.ext c7
  have a8 := a8.ext c7
  have b3 := b3.ext c7
  have b4 := b4.ext c7
  have b6 := b6.ext c7
  have c2 := c2.ext c7
  have g4 := g4.ext c7
  have hC := hC.ext c7
  have hO := Own.join0 hO c7 s0
  have hO := hO.perm (R := l3 ++ (([k3]) ++ (([a0]) ++ (o1 ++ (([j1]) ++ (l1 ++ (j0 ++ (j9 ++ (([h5]) ++ (f2 ++ (b8 ++ ([])))))))))))) (by simp)
  have k4 := k4.free (M' := (PastL M [] a4 a5 (a7 ++ ([])))) (Free.os Free.int)
  have hS := hS.ext c7
  refine x_one (i := 12) (by kernel_rfl) ?_
  obtain ⟨s1, m3, y6, s2, c8, s4⟩ := new_block y5 [(.slice o2 o3 o4)] 37
  refine xk_val (w' := s1) (b := false) (.slice (some ⟨m3, 0, none⟩) 1 1) rfl  (y_bslice rfl (by rw [y6, s2]; kernel_rfl)) rfl (fun _ => hS.ext c8) ?_
  have a1 := a1.ext c8
  have d3 := d3.cn c8
  have a3 := a3.ext c8
  have a2 := a2.ext c8
  have a6 := a6.ext c8
  have a8 := a8.ext c8
  have b3 := b3.ext c8
  have b4 := b4.ext c8
  have b6 := b6.ext c8
  have c2 := c2.ext c8
  have g4 := g4.ext c8
  have k4 := k4.ext c8
  have hC := hC.ext c8
  have hO := hO.new1 c8 s2 s4.lt
  have hO := hO.perm (R := (m3 :: ((l3) ++ ([]))) ++ (([k3]) ++ (([a0]) ++ (o1 ++ (([j1]) ++ (l1 ++ (j0 ++ (j9 ++ (([h5]) ++ (f2 ++ (b8 ++ ([])))))))))))) (by simp)
  have y7 := hO.nd
  have o5 := os_of_box (r := (RT.os 3 (RT.int .i64))) (M := (PastL M [] a4 a5 (a7 ++ ([])))) (css := [[(.slice o2 o3 o4)]]) (fps := [(l3 : List Nat)]) (xs := ([r275] : List (List Int))) s4 ⟨(os_unval k4), trivial⟩ (Nat.le_of_ble_eq_true rfl) y7
  have o5 : (RT.os 37 (RT.os 3 (RT.int .i64))).val (PastL M [] a4 a5 (a7 ++ ([]))) s1 (.slice (some ⟨m3, 0, none⟩) 1 1) [r275] (m3 :: ((l3) ++ ([]))) := o5
  have hS := hS.ext c8
  refine x_one (i := 13) (by kernel_rfl) ?_
  obtain ⟨y280, y8, hs⟩ := bind_some hs
  have hO := hO.fr9
  obtain ⟨m4, m5, m6, y9, z0, z1, e9, z2, l4⟩ := app_os Rw47 y8 a3 o5 hO.inM (fun g hg hq => hO.apart g hq (mem_l hg))
  have g5 := os_block a3
  refine xk_val (w' := y9) (b := true) (.slice m4 m5 m6) rfl  (y_append rfl rfl (z1 _)) rfl (fun h => nomatch h) ?_
  have hO := hO.fr1
  have hO := hO.fr1
  have a1 := a1.ma e9 hO g5 (fun _ e => (mem_r (mem_r (mem_r (mem_r (mem_r (mem_r (mem_r (mem_r (mem_r (mem_l (e))))))))))))
  have d3 := d3.ap e9 hO g5 (mem_r (mem_r (mem_l (List.mem_singleton.2 rfl))))
  have a2 := a2.mt e9 hO g5
  have a6 := a6.ma e9 hO g5 (fun _ e => (mem_r (mem_r (mem_r (mem_r (mem_r (mem_r (mem_r (mem_r (mem_l (e)))))))))))
  have a8 := a8.ma e9 hO g5 (fun _ e => (mem_r (mem_r (mem_r (mem_r (mem_r (mem_r (mem_l (e)))))))))
  have b3 := b3.ma e9 hO g5 (fun _ e => (mem_r (mem_r (mem_r (mem_r (mem_r (mem_r (mem_r (mem_l (e))))))))))
  have b4 := b4.ma e9 hO g5 (fun _ e => (mem_r (mem_r (mem_r (mem_r (mem_r (mem_l (e))))))))
  have b6 := b6.ma e9 hO g5 (fun _ e => (mem_r (mem_r (mem_r (mem_r (mem_l (e)))))))
  have c2 := c2.ma e9 hO g5 (fun _ e => (mem_r (mem_r (mem_r (mem_l (e))))))
  have g4 := g4.ma e9 hO g5 (fun _ e => (mem_r (mem_l (e))))
  have hC := hC.st e9 hO g5
  have hO := hO.eat e9 z2 (os_nodup l4) l4.fpl
  refine x_p 14 (.pointer (some ⟨a0, 0, none⟩)) rfl (by kernel_rfl)  (fun _ => y_nilc rfl) (fun h => nomatch h) ?_
  refine x_p 15 (.pointer (some ⟨a0, 4, none⟩)) rfl (by kernel_rfl)  (fun _ => y_faddr rfl Fa58x4) (fun h => nomatch h) ?_
  refine x_one (i := 16) (by kernel_rfl) ?_
  obtain ⟨s5, z3, f0, o6⟩ := box_store (P := Try.prog) d3 [(.int .i64 a_.1), (.slice a9 b0 b1), (.slice e5 e6 e7), (.slice j2 j3 j4)] [(.slice b9 c0 c1)] [(.int .i64 0), (.int .i64 0)] [(.slice m4 m5 m6)] rfl rfl (by intro u hu; simp only [List.mem_cons, List.not_mem_nil, or_false] at hu; rcases hu with rfl <;> rfl)
  refine xk_skip (w' := s5) (b := true) rfl (ys_store rfl rfl (z3 _ _ rfl Sz47)) rfl (fun h => nomatch h) ?_
  have hO := hO.fr2
  have a1 := a1.ma f0 hO same_ (fun _ e => (mem_r (mem_r (mem_r (mem_r (mem_r (mem_r (mem_r (mem_r (mem_l (e)))))))))))
  have a2 := a2.mt f0 hO same_
  have a6 := a6.ma f0 hO same_ (fun _ e => (mem_r (mem_r (mem_r (mem_r (mem_r (mem_r (mem_r (mem_l (e))))))))))
  have a8 := a8.ma f0 hO same_ (fun _ e => (mem_r (mem_r (mem_r (mem_r (mem_r (mem_l (e))))))))
  have b3 := b3.ma f0 hO same_ (fun _ e => (mem_r (mem_r (mem_r (mem_r (mem_r (mem_r (mem_l (e)))))))))
  have b4 := b4.ma f0 hO same_ (fun _ e => (mem_r (mem_r (mem_r (mem_r (mem_l (e)))))))
  have b6 := b6.ma f0 hO same_ (fun _ e => (mem_r (mem_r (mem_r (mem_l (e))))))
  have c2 := c2.ma f0 hO same_ (fun _ e => (mem_r (mem_r (mem_l (e)))))
  have g4 := g4.ma f0 hO same_ (fun _ e => (mem_r (mem_l (e))))
  have l4 := l4.ma f0 hO same_ (fun _ e => (mem_l (e)))
  have hC := hC.st f0 hO same_
  have hO := hO.ext f0
  have o6 : BoxV s5 a0 58 [(.int .i64 a_.1), (.slice a9 b0 b1), (.slice e5 e6 e7), (.slice j2 j3 j4), (.slice m4 m5 m6), (.int .i64 0), (.int .i64 0)] := o6
  refine x_end (by kernel_rfl) ?_
  clear hS
  refine c_region ?_
  refine pl_val (.int .i64 (w64 ((h1 : Int) + 1))) (y_add rfl rfl) ?_
  refine pl_val (.int .i64 (w64 ((h1 : Int) + 1))) (y_move rfl) ?_
  refine c_nil ?_
  cases hs
  have hO := hO.fr2
  have hO := hO.drop
  have hO := hO.fr3
  have hO := hO.drop
  have hO := hO.fr4
  have hO := hO.drop
  have hO := hO.fr4
  have hO := hO.drop
  have hO := hO.fr4
  have hO := hO.drop
  have hO := hO.fr4
  have hO := hO.fr1
  have hO := hO.fr2
  have hO := hO.fr3
  have hO := hO.fr4
  exact ⟨_, rfl, drop_cons_next hd, _, e5, e6, e7, l1, j2, j3, j4, o1, m4, m5, m6, z0, fr_ovl 123 ⟨rfl, rfl, rfl, congrArg (Value.int .i64) (w64_succ hlt (Int.natCast_nonneg _) (os_max a1)), trivial⟩, hC, hO, a1, o6, b4, c2, l4⟩
 ·skip
  have hO := hO.fr1
  have hO := hO.fr1
  have hO := hO.nil
  have hO := hO.nil
  have hO := hO.nil
  exact ⟨0, rfl, rfl, _, none, 0, 0, [], none, 0, 0, [], none, 0, 0, [], fr_ovl 123 ⟨rfl, rfl, rfl, rfl, trivial⟩, hC, hO, a1, b2, os_nil, os_nil, os_nil⟩
 cases o196 with
 | nx _ => exact True.intro
 | rt r_ =>
  have hs := after_rt hs
  intro p0 s8 hK
  cases hs
  exact hK
 | br s192 =>
  have hs := after_br hs
  rintro p0 b7 ⟨σ, f3, f4, f5, i6, f6, f7, f8, i7, f9, g0, g1, i9, rfl, hC, hO, a1, b2, c3, c4, c5⟩
  refine c_seq ?_
  refine x_start [13] Mx rfl ?_
  have j5 := Chg.drew b7
  generalize World.drew b7 = z4 at j5 ⊢
  have a1 := a1.ext j5
  have b2 := b2.cn j5
  have c3 := c3.ext j5
  have c4 := c4.ext j5
  have c5 := c5.ext j5
  have hC := hC.ext j5
  have hO := hO.ext j5
  have hS := Chg.refl [] z4
  refine x_p 0 (.pointer (some ⟨a0, 0, none⟩)) rfl (by kernel_rfl)  (fun _ => y_move rfl) (fun _ => hS) ?_
  refine x_p 1 (.pointer (some ⟨a0, 0, none⟩)) rfl (by kernel_rfl)  (fun _ => y_move rfl) (fun _ => hS) ?_
  refine x_p 2 (.pointer (some ⟨a0, 0, none⟩)) rfl (by kernel_rfl)  (fun _ => y_nilc rfl) (fun _ => hS) ?_
  refine x_p 3 (.pointer (some ⟨a0, 1, none⟩)) rfl (by kernel_rfl)  (fun _ => y_faddr rfl Fa58x1) (fun _ => hS) ?_
  refine x_l 4 (.slice a9 b0 b1) rfl (by kernel_rfl)  (fun w' hw' => y_load rfl ((box_load Ag47 Sz47 b2 [(.int .i64 a_.1)] [(.slice a9 b0 b1)] [(.slice f3 f4 f5), (.slice f6 f7 f8), (.slice f9 g0 g1), (.int .i64 0), (.int .i64 0)] rfl rfl (fun _ => rfl)) w' hw')) hS ?_
  refine x_p 5 (.pointer (some ⟨a0, 0, none⟩)) rfl (by kernel_rfl)  (fun _ => y_move rfl) (fun _ => hS) ?_
  refine x_p 6 (.pointer (some ⟨a0, 0, none⟩)) rfl (by kernel_rfl)  (fun _ => y_nilc rfl) (fun _ => hS) ?_
  refine x_p 7 (.pointer (some ⟨a0, 0, none⟩)) rfl (by kernel_rfl)  (fun _ => y_faddr rfl Fa58x0) (fun _ => hS) ?_
  refine x_l 8 (.int .i64 a_.1) rfl (by kernel_rfl)  (fun w' hw' => y_load rfl ((box_load Ag3 Sz3 b2 [] [(.int .i64 a_.1)] [(.slice a9 b0 b1), (.slice f3 f4 f5), (.slice f6 f7 f8), (.slice f9 g0 g1), (.int .i64 0), (.int .i64 0)] rfl rfl (fun _ => rfl)) w' hw')) hS ?_
  refine x_one (i := 9) (by kernel_rfl) ?_
  obtain ⟨r292, z5, hs⟩ := bind_some hs
  refine xk_call (b := false) rfl  Bd84 rfl (c_impl_projection (M := (PastL M [] a4 a5 (a7 ++ ([])))) a_.1 3 0  hO.fut z5) rfl (by rintro _ _ _ ⟨z6, z7, z8, l5, rfl, i0, d9, s6⟩; exact hS.ext i0) ?_
  rintro _ C4 ⟨z6, z7, z8, l5, rfl, i0, d9, s6⟩
  have a1 := a1.ext i0
  have b2 := b2.cn i0
  have c3 := c3.ext i0
  have c4 := c4.ext i0
  have c5 := c5.ext i0
  have hC := hC.ext i0
  have hO := Own.join0 hO i0 s6
  have hO := hO.perm (R := l5 ++ (i6 ++ (i7 ++ (i9 ++ (([a0]) ++ (b8 ++ ([]))))))) (by simp)
  have hS := hS.ext i0
  refine x_one (i := 10) (by kernel_rfl) ?_
  have hO := hO.fr5
  obtain ⟨r295, z9, hs⟩ := bind_some hs
  refine xk_call (b := false) rfl  Bd83 rfl (c_impl_patternAt (M := (Less (Less (PastL M [] a4 a5 (a7 ++ ([]))) b8) l5)) p24.1 r292 ((((Frz.os (Frz.rs Frz.int))).val a1 Less.sub Less.not).sub Less.sub) (((Frz.os Frz.int)).val (d9.sub Less.sub) Less.sub Less.not) (hO.less).less.fut z9) rfl (by rintro _ _ _ ⟨rfl, g6⟩; exact hS.ext g6) ?_
  rintro _ C5 ⟨rfl, g6⟩
  have a1 := a1.ext g6
  have b2 := b2.cn g6
  have c3 := c3.ext g6
  have c4 := c4.ext g6
  have c5 := c5.ext g6
  have d9 := d9.ext g6
  have hC := hC.ext g6
  have hO := hO.ext g6
  have hS := hS.ext g6
  refine x_p 11 (.pointer (some ⟨a0, 0, none⟩)) rfl (by kernel_rfl)  (fun _ => y_nilc rfl) (fun _ => hS) ?_
  refine x_p 12 (.pointer (some ⟨a0, 5, none⟩)) rfl (by kernel_rfl)  (fun _ => y_faddr rfl Fa58x5) (fun _ => hS) ?_
  refine x_one (i := 13) (by kernel_rfl) ?_
  obtain ⟨m7, A0, k0, g7⟩ := box_store (P := Try.prog) b2 [(.int .i64 a_.1), (.slice a9 b0 b1), (.slice f3 f4 f5), (.slice f6 f7 f8), (.slice f9 g0 g1)] [(.int .i64 0)] [(.int .i64 0)] [(.int .i64 r295)] rfl rfl (by intro u hu; simp only [List.mem_cons, List.not_mem_nil, or_false] at hu; rcases hu with rfl <;> rfl)
  refine xk_skip (w' := m7) (b := true) rfl (ys_store rfl rfl (A0 _ _ rfl Sz3)) rfl (fun h => nomatch h) ?_
  have hO := hO.fr5
  have a1 := a1.ma k0 hO same_ (fun _ e => (mem_l (e)))
  have c3 := c3.ma k0 hO same_ (fun _ e => (mem_r (mem_r (mem_l (e)))))
  have c4 := c4.ma k0 hO same_ (fun _ e => (mem_r (mem_r (mem_r (mem_l (e))))))
  have c5 := c5.ma k0 hO same_ (fun _ e => (mem_r (mem_r (mem_r (mem_r (mem_l (e)))))))
  have d9 := d9.ma k0 hO same_ (fun _ e => (mem_r (mem_l (e))))
  have hC := hC.st k0 hO same_
  have hO := hO.ext k0
  have g7 : BoxV m7 a0 58 [(.int .i64 a_.1), (.slice a9 b0 b1), (.slice f3 f4 f5), (.slice f6 f7 f8), (.slice f9 g0 g1), (.int .i64 r295), (.int .i64 0)] := g7
  refine x_end (by kernel_rfl) ?_
  clear hS
  refine c_seq ?_
  refine x_start [13] Mx rfl ?_
  have i5 := Chg.drew m7
  generalize World.drew m7 = A1 at i5 ⊢
  have a1 := a1.ext i5
  have g7 := g7.cn i5
  have c3 := c3.ext i5
  have c4 := c4.ext i5
  have c5 := c5.ext i5
  have d9 := d9.ext i5
  have hC := hC.ext i5
  have hO := hO.ext i5
  have hS := Chg.refl [] A1
  refine x_p 0 (.pointer (some ⟨a0, 0, none⟩)) rfl (by kernel_rfl)  (fun _ => y_move rfl) (fun _ => hS) ?_
  refine x_p 1 (.pointer (some ⟨a0, 0, none⟩)) rfl (by kernel_rfl)  (fun _ => y_move rfl) (fun _ => hS) ?_
  refine x_p 2 (.pointer (some ⟨a0, 0, none⟩)) rfl (by kernel_rfl)  (fun _ => y_nilc rfl) (fun _ => hS) ?_
  refine x_p 3 (.pointer (some ⟨a0, 1, none⟩)) rfl (by kernel_rfl)  (fun _ => y_faddr rfl Fa58x1) (fun _ => hS) ?_
  refine x_l 4 (.slice a9 b0 b1) rfl (by kernel_rfl)  (fun w' hw' => y_load rfl ((box_load Ag47 Sz47 g7 [(.int .i64 a_.1)] [(.slice a9 b0 b1)] [(.slice f3 f4 f5), (.slice f6 f7 f8), (.slice f9 g0 g1), (.int .i64 r295), (.int .i64 0)] rfl rfl (fun _ => rfl)) w' hw')) hS ?_
  refine x_p 5 (.pointer (some ⟨a0, 0, none⟩)) rfl (by kernel_rfl)  (fun _ => y_move rfl) (fun _ => hS) ?_
  refine x_p 6 (.pointer (some ⟨a0, 0, none⟩)) rfl (by kernel_rfl)  (fun _ => y_nilc rfl) (fun _ => hS) ?_
  refine x_p 7 (.pointer (some ⟨a0, 0, none⟩)) rfl (by kernel_rfl)  (fun _ => y_faddr rfl Fa58x0) (fun _ => hS) ?_
  refine x_l 8 (.int .i64 a_.1) rfl (by kernel_rfl)  (fun w' hw' => y_load rfl ((box_load Ag3 Sz3 g7 [] [(.int .i64 a_.1)] [(.slice a9 b0 b1), (.slice f3 f4 f5), (.slice f6 f7 f8), (.slice f9 g0 g1), (.int .i64 r295), (.int .i64 0)] rfl rfl (fun _ => rfl)) w' hw')) hS ?_
  refine x_one (i := 9) (by kernel_rfl) ?_
  obtain ⟨r299, A2, hs⟩ := bind_some hs
  refine xk_call (b := false) rfl  Bd84 rfl (c_impl_projection (M := (PastL M [] a4 a5 (a7 ++ ([])))) a_.1 3 2  hO.fut A2) rfl (by rintro _ _ _ ⟨A3, A4, A5, m8, rfl, g8, k5, s7⟩; exact hS.ext g8) ?_
  rintro _ C6 ⟨A3, A4, A5, m8, rfl, g8, k5, s7⟩
  have a1 := a1.ext g8
  have g7 := g7.cn g8
  have c3 := c3.ext g8
  have c4 := c4.ext g8
  have c5 := c5.ext g8
  have d9 := d9.ext g8
  have hC := hC.ext g8
  have hO := Own.join0 hO g8 s7
  have hO := hO.perm (R := m8 ++ (([a0]) ++ (b8 ++ (l5 ++ (i6 ++ (i7 ++ (i9 ++ ([])))))))) (by simp)
  have hS := hS.ext g8
  refine x_one (i := 10) (by kernel_rfl) ?_
  have hO := hO.fr2
  obtain ⟨r302, A6, hs⟩ := bind_some hs
  refine xk_call (b := false) rfl  Bd83 rfl (c_impl_patternAt (M := (Less (Less (PastL M [] a4 a5 (a7 ++ ([]))) b8) m8)) p24.1 r299 ((((Frz.os (Frz.rs Frz.int))).val a1 Less.sub Less.not).sub Less.sub) (((Frz.os Frz.int)).val (k5.sub Less.sub) Less.sub Less.not) (hO.less).less.fut A6) rfl (by rintro _ _ _ ⟨rfl, f1⟩; exact hS.ext f1) ?_
  rintro _ C7 ⟨rfl, f1⟩
  have a1 := a1.ext f1
  have g7 := g7.cn f1
  have c3 := c3.ext f1
  have c4 := c4.ext f1
  have c5 := c5.ext f1
  have d9 := d9.ext f1
  have k5 := k5.ext f1
  have hC := hC.ext f1
  have hO := hO.ext f1
  have hS := hS.ext f1
  refine x_p 11 (.pointer (some ⟨a0, 0, none⟩)) rfl (by kernel_rfl)  (fun _ => y_nilc rfl) (fun _ => hS) ?_
  refine x_p 12 (.pointer (some ⟨a0, 6, none⟩)) rfl (by kernel_rfl)  (fun _ => y_faddr rfl Fa58x6) (fun _ => hS) ?_
  refine x_one (i := 13) (by kernel_rfl) ?_
  obtain ⟨o7, A7, j6, o8⟩ := box_store (P := Try.prog) g7 [(.int .i64 a_.1), (.slice a9 b0 b1), (.slice f3 f4 f5), (.slice f6 f7 f8), (.slice f9 g0 g1), (.int .i64 r295)] [(.int .i64 0)] [] [(.int .i64 r302)] rfl rfl (by intro u hu; simp only [List.mem_cons, List.not_mem_nil, or_false] at hu; rcases hu with rfl <;> rfl)
  refine xk_skip (w' := o7) (b := true) rfl (ys_store rfl rfl (A7 _ _ rfl Sz3)) rfl (fun h => nomatch h) ?_
  have hO := hO.fr2
  have a1 := a1.ma j6 hO same_ (fun _ e => (mem_l (e)))
  have c3 := c3.ma j6 hO same_ (fun _ e => (mem_r (mem_r (mem_r (mem_l (e))))))
  have c4 := c4.ma j6 hO same_ (fun _ e => (mem_r (mem_r (mem_r (mem_r (mem_l (e)))))))
  have c5 := c5.ma j6 hO same_ (fun _ e => (mem_r (mem_r (mem_r (mem_r (mem_r (mem_l (e))))))))
  have d9 := d9.ma j6 hO same_ (fun _ e => (mem_r (mem_r (mem_l (e)))))
  have k5 := k5.ma j6 hO same_ (fun _ e => (mem_r (mem_l (e))))
  have hC := hC.st j6 hO same_
  have hO := hO.ext j6
  have o8 : BoxV o7 a0 58 [(.int .i64 a_.1), (.slice a9 b0 b1), (.slice f3 f4 f5), (.slice f6 f7 f8), (.slice f9 g0 g1), (.int .i64 r295), (.int .i64 r302)] := o8
  refine x_end (by kernel_rfl) ?_
  clear hS
  refine c_sr ?_
  refine pl_val (.pointer (some ⟨a0, 0, none⟩)) (y_move rfl) ?_
  refine pl_val (.pointer (some ⟨a0, 0, none⟩)) (y_assign rfl) ?_
  refine pl_val (.bool true) (y_assign rfl) ?_
  refine c_nil ?_
  refine wp_ret ?_
  have hO := hO.fr6
  have hO := hO.fr6
  have hO := hO.fr6
  have hO := hO.fr4
  have hO := hO.fr4
  have hO := hO.perm (R := (a0 :: (([] : List Nat) ++ (b8 ++ (i6 ++ (i7 ++ (i9 ++ (([] : List Nat) ++ ([] : List Nat)))))))) ++ (m8 ++ (l5 ++ ([])))) (by simp)
  have A8 : (RT.po 58 (RT.pr (RT.int .i64) (RT.pr (RT.os 37 (RT.rs (RT.int .i64))) (RT.pr (RT.os 4 RT.bool) (RT.pr (RT.os 37 (RT.os 3 (RT.int .i64))) (RT.pr (RT.os 37 (RT.os 3 (RT.int .i64))) (RT.pr (RT.int .i64) (RT.int .i64)))))))).val (PastL M [] a4 a5 (a7 ++ ([]))) o7 (.pointer (some ⟨a0, 0, none⟩)) (a_.1, p24.1, s192.1, s192.2.1, s192.2.2, r295, r302) (a0 :: (([] : List Nat) ++ (b8 ++ (i6 ++ (i7 ++ (i9 ++ (([] : List Nat) ++ ([] : List Nat)))))))) := po_shut o8 ⟨_, _, _, _, rfl, rfl, ⟨rfl, rfl⟩, ⟨_, _, _, _, rfl, rfl, (os_unval a1), ⟨_, _, _, _, rfl, rfl, (os_unval c3), ⟨_, _, _, _, rfl, rfl, (os_unval c4), ⟨_, _, _, _, rfl, rfl, (os_unval c5), ⟨_, _, _, _, rfl, rfl, ⟨rfl, rfl⟩, ⟨rfl, rfl⟩⟩⟩⟩⟩⟩⟩ hO.nd
  cases hs
  have hO := hO.fr1
  have hO := hO.drop
  have hO := hO.fr1
  have hO := hO.drop
  exact ⟨_, (.pointer (some ⟨a0, 0, none⟩)), (a0 :: (([] : List Nat) ++ (b8 ++ (i6 ++ (i7 ++ (i9 ++ (([] : List Nat) ++ ([] : List Nat)))))))), fr_ovl 123 ⟨rfl, rfl, trivial⟩, hC, (KeepsF.out hK hO.allM (op_some A8)), hO.top⟩

def k_impl_rises (M : Nat → Prop) (w0 : World) (r : Bool) (a : Act) (w : World) : Prop :=
  ∃ (σ : Nat → Value) , a = fr 20 (ovl σ [(2, (.bool r))]) ∧ Chg [] w0 w
def s_impl_rises (list : List Int) : Option (Bool) :=
  (forC (S := Unit) (R := Bool) (fun k10 s8 =>
  (idx list (w64 (k10 - 1))).bind fun x15 =>
  (idx list k10).bind fun x17 =>
  (bif (decide (x17 ≤ x15)) then some (.rt false) else some (.nx ()))) 1 (list.length : Int) ()).bind fun o12 => after o12 (fun r_ => some r_) (fun s8 =>
  some true)
set_option maxHeartbeats 4000000 in
theorem c_impl_rises {M : Nat → Prop} {w : World} {pa0 : Option Addr} {pn0 pc0 : Nat} (list : List Int) (h0 : (RT.rs (RT.int .i64)).val M w (.slice pa0 pn0 pc0) list ([])) (hM : ∀ g, w.heap.size ≤ g → M g) {r : Bool} (hs : s_impl_rises list = some r) :
    Gives Try.prog 59 [(.slice pa0 pn0 pc0)] w (fun v w' => v = (.bool r) ∧ Chg [] w w') := by
 refine calls_fr Try.func59 rfl Try.ntmps59 (Nat.le_of_ble_eq_true rfl) ?_
 have hO := Own.start (N := Nw w []) hM Nw.fut
 have hC := Chg.refl [] w
 unfold s_impl_rises at hs
 refine wp_mono (Q := KPost (k_impl_rises M w r)) ?_ (fun e a a3 h => ?_)
 rotate_left
 ·cases e
  case ret =>
   obtain ⟨σ, rfl, hrest⟩ := h
   exact ret1x Try.results59 (res_tmp rfl) ⟨rfl, hrest⟩
  all_goals exact (h : False).elim
 refine c_sr ?_
 refine pl_val (.bool false) (y_assign rfl) ?_
 refine c_nil ?_
 refine c_seq ?_
 refine c_sr ?_
 refine pl_val (.int .i64 1) (y_assign rfl) ?_
 refine c_nil ?_
 obtain ⟨o12, a4, hs⟩ := bind_some hs
 refine wp_block ?_
 refine wp_forC (id := 0) (list.length : Int) (I := fun k10 s8 a a0 => ∃ (σ : Nat → Value), a = fr 20 (ovl σ [(0, (.slice pa0 pn0 pc0)), (3, (.int .i64 k10))]) ∧ Chg [] w a0 ∧ Own (Nw w []) M a0 ([]) ∧ (RT.rs (RT.int .i64)).val M a0 (.slice pa0 pn0 pc0) list ([])) (J := fun s8 a a0 => ∃ (σ : Nat → Value), a = fr 20 (ovl σ []) ∧ Chg [] w a0 ∧ Own (Nw w []) M a0 ([]) ∧ (RT.rs (RT.int .i64)).val M a0 (.slice pa0 pn0 pc0) list ([])) (K := (k_impl_rises M w)) ?_ ?_ 1 () o12 _ _ ?_ a4 ?_
 ·rintro k10 s8 a a0 ⟨σ, rfl, hC, hO, h0⟩ hlt
  refine c_seq ?_
  refine c_sr ?_
  refine pl_val (.int .i64 k10) (y_move rfl) ?_
  refine pl_val (.slice pa0 pn0 pc0) (y_move rfl) ?_
  refine pl_val (.int .i64 (list.length : Int)) (y_len' Sl37 (rs_len h0) rfl) ?_
  refine pl_val (.bool (decide (k10 < (list.length : Int)))) (y_lss rfl rfl) ?_
  refine c_nil ?_
  refine c_condF (congrArg Value.bool (decide_eq_false hlt)) ?_
  refine wp_exit ?_
  exact ⟨rfl, _, fr_ovl 20 trivial, hC, hO, h0⟩
 ·rintro k10 s8 o12 a a0 ⟨σ, rfl, hC, hO, h0⟩ hlt hw hs
  refine c_seq ?_
  refine c_sr ?_
  refine pl_val (.int .i64 k10) (y_move rfl) ?_
  refine pl_val (.slice pa0 pn0 pc0) (y_move rfl) ?_
  refine pl_val (.int .i64 (list.length : Int)) (y_len' Sl37 (rs_len h0) rfl) ?_
  refine pl_val (.bool (decide (k10 < (list.length : Int)))) (y_lss rfl rfl) ?_
  refine c_nil ?_
  refine c_condT (congrArg Value.bool (decide_eq_true hlt)) ?_
  refine wp_skip ?_
  refine c_seq ?_
  refine wp_block ?_
  refine c_seq ?_
  refine x_start [] Mx rfl ?_
  have a1 := Chg.drew a0
  generalize World.drew a0 = a5 at a1 ⊢
  have h0 := h0.ext a1
  have hC := hC.ext a1
  have hO := hO.ext a1
  have hS := Chg.refl [] a5
  refine x_p 0 (.slice pa0 pn0 pc0) rfl (by kernel_rfl)  (fun _ => y_move rfl) (fun _ => hS) ?_
  refine x_p 1 (.int .i64 k10) rfl (by kernel_rfl)  (fun _ => y_move rfl) (fun _ => hS) ?_
  refine x_p 2 (.int .i64 (w64 (k10 - 1))) rfl (by kernel_rfl)  (fun _ => y_sub rfl rfl) (fun _ => hS) ?_
  obtain ⟨x15, a6, hs⟩ := bind_some hs
  obtain ⟨a7, a8, a9, b0⟩ := rs_idx Sl37 Sz3 h0 a6
  refine x_p 3 (.pointer (some ⟨a7, a8, none⟩)) rfl (by kernel_rfl)  (fun _ => a9 _ _ _ _ _ _ _ _ _ rfl rfl) (fun _ => hS) ?_
  refine x_l 4 (.int .i64 x15) rfl (by kernel_rfl)  (fun w' hw' => y_load rfl ((at_load_int Ag3 Sz3 b0) w' hw')) hS ?_
  refine x_p 5 (.slice pa0 pn0 pc0) rfl (by kernel_rfl)  (fun _ => y_move rfl) (fun _ => hS) ?_
  refine x_p 6 (.int .i64 k10) rfl (by kernel_rfl)  (fun _ => y_move rfl) (fun _ => hS) ?_
  obtain ⟨x17, b1, hs⟩ := bind_some hs
  obtain ⟨b2, b3, b4, b5⟩ := rs_idx Sl37 Sz3 h0 b1
  refine x_p 7 (.pointer (some ⟨b2, b3, none⟩)) rfl (by kernel_rfl)  (fun _ => b4 _ _ _ _ _ _ _ _ _ rfl rfl) (fun _ => hS) ?_
  refine x_l 8 (.int .i64 x17) rfl (by kernel_rfl)  (fun w' hw' => y_load rfl ((at_load_int Ag3 Sz3 b5) w' hw')) hS ?_
  refine x_p 9 (.bool (decide (x17 ≤ x15))) rfl (by kernel_rfl)  (fun _ => y_geq rfl rfl) (fun _ => hS) ?_
  refine x_end (by kernel_rfl) ?_
  clear hS
  rcases bif_some hs with ⟨a2, hs⟩ | ⟨a2, hs⟩
  ·refine c_condT (congrArg Value.bool a2) ?_
   refine c_sr ?_
   refine pl_val (.bool false) (y_assign rfl) ?_
   refine c_nil ?_
   refine wp_ret ?_
   cases hs
   exact ⟨_, fr_ovl 20 ⟨rfl, trivial⟩, hC⟩
  refine c_condF (congrArg Value.bool a2) ?_
  refine wp_skip ?_
  refine c_region ?_
  refine pl_val (.int .i64 k10) (y_move rfl) ?_
  refine pl_val (.int .i64 (w64 (k10 + 1))) (y_add rfl rfl) ?_
  refine pl_val (.int .i64 (w64 (k10 + 1))) (y_assign rfl) ?_
  refine c_nil ?_
  cases hs
  exact ⟨_, fr_ovl 20 ⟨rfl, congrArg (Value.int .i64) hw, trivial⟩, hC, hO, h0⟩
 ·skip
  exact ⟨_, fr_ovl 20 ⟨rfl, rfl, trivial⟩, hC, hO, h0⟩
 cases o12 with
 | nx _ => exact True.intro
 | rt r_ =>
  have hs := after_rt hs
  intro b6 a3 hK
  cases hs
  exact hK
 | br s8 =>
  have hs := after_br hs
  rintro b6 a0 ⟨σ, rfl, hC, hO, h0⟩
  refine c_sr ?_
  refine pl_val (.bool true) (y_assign rfl) ?_
  refine c_nil ?_
  refine wp_ret ?_
  cases hs
  exact ⟨_, fr_ovl 20 ⟨rfl, trivial⟩, hC⟩

theorem Sl56 : SlT Try.prog 56 4 := Try.underlying56

def k_impl_marks (M : Nat → Prop) (w0 : World) (r : (List Bool)) (a : Act) (w : World) : Prop :=
  ∃ (σ : Nat → Value) (ra0 : Option Addr) (rn0 rc0 : Nat) (rf0 : List Nat), a = fr 21 (ovl σ [(4, (.slice ra0 rn0 rc0))]) ∧ Chg [] w0 w ∧ (RT.os 4 RT.bool).val M w (.slice ra0 rn0 rc0) r rf0 ∧ Own (Nw w0 []) (fun _ => True) w (rf0 ++ ([]))
def s_impl_marks (list : List Int) (n : Int) : Option ((List Bool)) :=
  (mks n (false : Bool)).bind fun y3 =>
  (forR (S := (List Bool)) (R := (List Bool)) (fun _ x17 s14 =>
  (idx s14 x17).bind fun x23 =>
  some (.nx (List.set s14 (Int.toNat x17) true))) 0 list y3).bind fun o18 => after o18 (fun r_ => some r_) (fun s14 =>
  some s14)
set_option maxHeartbeats 4000000 in
theorem c_impl_marks {M : Nat → Prop} {w : World} {pa0 : Option Addr} {pn0 pc0 : Nat} (list : List Int) (n : Int) (h0 : (RT.rs (RT.int .i64)).val M w (.slice pa0 pn0 pc0) list ([])) (hM : ∀ g, w.heap.size ≤ g → M g) {r : (List Bool)} (hs : s_impl_marks list n = some r) :
    Gives Try.prog 61 [(.slice pa0 pn0 pc0), (.int .i64 n)] w (fun v w' => ∃ (ra0 : Option Addr) (rn0 rc0 : Nat) (rf0 : List Nat), v = (.slice ra0 rn0 rc0) ∧ Chg [] w w' ∧ (RT.os 4 RT.bool).val M w' (.slice ra0 rn0 rc0) r rf0 ∧ Own (Nw w []) (fun _ => True) w' (rf0 ++ ([]))) := by
 refine calls_fr Try.func61 rfl Try.ntmps61 (Nat.le_of_ble_eq_true rfl) ?_
 have hO := Own.start (N := Nw w []) hM Nw.fut
 have hC := Chg.refl [] w
 unfold s_impl_marks at hs
 refine wp_mono (Q := KPost (k_impl_marks M w r)) ?_ (fun e a b5 h => ?_)
 rotate_left
 ·cases e
  case ret =>
   obtain ⟨σ, ra0, rn0, rc0, rf0, rfl, hrest⟩ := h
   exact ret1x Try.results61 (res_tmp rfl) ⟨ra0, rn0, rc0, rf0, rfl, hrest⟩
  all_goals exact (h : False).elim
 refine c_sr ?_
 refine pl_val (.slice none 0 0) (y_assign rfl) ?_
 refine c_nil ?_
 refine c_sr ?_
 refine pl_val (.int .i64 n) (y_move rfl) ?_
 obtain ⟨y3, b6, hs⟩ := bind_some hs
 obtain ⟨a1, a2, a3, b7, b8, b9, a8, c0, a9⟩ := mk_os (M := M) (w := w) (r := RT.bool) Rw56 b6 (fun _ _ => ⟨rfl, rfl⟩)
 refine pl_val (w' := b7) (.slice a1 a2 a3) (y_make rfl rfl b9) ?_
 have h0 := h0.ext a8
 have hC := hC.ext a8
 have hO := hO.new a8 c0 (os_nodup a9) a9.fpl
 refine pl_val (.slice a1 a2 a3) (y_assign rfl) ?_
 refine c_nil ?_
 refine c_seq ?_
 refine c_sr ?_
 refine pl_val (.slice pa0 pn0 pc0) (y_move rfl) ?_
 refine pl_val (.int .i64 (list.length : Int)) (y_len' Sl37 (rs_len h0) rfl) ?_
 refine pl_val (.int .i64 0) (y_move rfl) ?_
 refine c_nil ?_
 obtain ⟨o18, c1, hs⟩ := bind_some hs
 refine wp_block ?_
 refine wp_forR (id := 0) (I := fun i_ xs_ s14 a a0 => ∃ a4 : Nat, i_ = (a4 : Int) ∧ List.drop a4 list = xs_ ∧ (∃ (σ : Nat → Value) (a5 : List Nat), a = fr 21 (ovl σ [(5, (.slice a1 a2 a3)), (10, (.slice pa0 pn0 pc0)), (11, (.int .i64 (list.length : Int))), (12, (.int .i64 (a4 : Int)))]) ∧ Chg [] w a0 ∧ Own (Nw w []) M a0 (a5 ++ []) ∧ (RT.rs (RT.int .i64)).val M a0 (.slice pa0 pn0 pc0) list ([]) ∧ (RT.os 4 RT.bool).val M a0 (.slice a1 a2 a3) s14 a5)) (J := fun s14 a a0 => ∃ (σ : Nat → Value) (a7 : List Nat), a = fr 21 (ovl σ [(5, (.slice a1 a2 a3))]) ∧ Chg [] w a0 ∧ Own (Nw w []) M a0 (a7 ++ []) ∧ (RT.rs (RT.int .i64)).val M a0 (.slice pa0 pn0 pc0) list ([]) ∧ (RT.os 4 RT.bool).val M a0 (.slice a1 a2 a3) s14 a7) (K := (k_impl_marks M w)) ?_ ?_ list 0 y3 o18 _ _ ?_ c1 ?_
 ·rintro _ s14 a a0 ⟨a4, rfl, hd, σ, a5, rfl, hC, hO, h0, a6⟩
  have hlt := drop_nil_ge hd
  refine c_sr ?_
  refine pl_val (.bool (decide ((a4 : Int) < (list.length : Int)))) (y_lss rfl rfl) ?_
  refine c_nil ?_
  refine c_seq ?_
  refine c_condF (congrArg Value.bool (decide_eq_false hlt)) ?_
  refine wp_exit ?_
  exact ⟨rfl, _, a5, fr_ovl 21 ⟨rfl, trivial⟩, hC, hO, h0, a6⟩
 ·rintro _ x17 xs_ s14 o18 a a0 ⟨a4, rfl, hd, σ, a5, rfl, hC, hO, h0, a6⟩ hs
  have hlt := drop_cons_lt hd
  have c2 := drop_cons_idx hd
  refine c_sr ?_
  refine pl_val (.bool (decide ((a4 : Int) < (list.length : Int)))) (y_lss rfl rfl) ?_
  refine c_nil ?_
  refine c_seq ?_
  refine c_condT (congrArg Value.bool (decide_eq_true hlt)) ?_
  refine wp_skip ?_
  refine c_seq ?_
  refine wp_block ?_
  refine c_sr ?_
  obtain ⟨c3, c4, c5, c6⟩ := rs_idx Sl37 Sz3 h0 c2
  refine pl_val (.pointer (some ⟨c3, c4, none⟩)) (c5 _ _ _ _ _ _ _ _ _ rfl rfl) ?_
  refine pl_val (.int .i64 x17) (y_load rfl ((at_load_int Ag3 Sz3 c6) _ (Chg.refl _ _))) ?_
  refine pl_val (.int .i64 x17) (y_assign rfl) ?_
  refine c_nil ?_
  refine c_region ?_
  refine pl_val (.slice a1 a2 a3) (y_move rfl) ?_
  refine pl_val (.int .i64 x17) (y_move rfl) ?_
  obtain ⟨x23, c7, hs⟩ := bind_some hs
  obtain ⟨b2, d6, b3, c8, c9, d7, d8⟩ := os_idx Sl56 Sz4 a6 c7
  refine pl_val (.pointer (some ⟨b2, 0 + Int.toNat x17 * 1, none⟩)) (c9 _ _ _ _ _ _ _ _ _ rfl rfl) ?_
  obtain ⟨d0, d1, d2, b0, d3, b1⟩ := os_store (P := Try.prog) (c' := [(.bool true)]) b3 a6 c8 (fun g hg => hO.inM g (os_block a6 g (by simpa using hg))) ⟨rfl, rfl⟩ List.nodup_nil (fun _ h => nomatch h) (fun _ h => .inl h)
  have b4 : ∀ q ∈ [b2], q ∈ a5 := fun q hq => os_block a6 q (by rw [b3]; exact hq)
  refine pl_skip (w' := d0) (ys_store rfl rfl (d2 _ _ rfl Sz4)) ?_
  have h0 := h0.mt b0 hO b4
  have hC := hC.st b0 hO b4
  have hO := hO.grow b0 (fun q hq => .inl ((d3 q hq).resolve_right (fun h => nomatch h))) (os_nodup b1) b1.fpl
  refine c_nil ?_
  refine c_region ?_
  refine pl_val (.int .i64 (w64 ((a4 : Int) + 1))) (y_add rfl rfl) ?_
  refine pl_val (.int .i64 (w64 ((a4 : Int) + 1))) (y_move rfl) ?_
  refine c_nil ?_
  cases hs
  exact ⟨_, rfl, drop_cons_next hd, _, d1, fr_ovl 21 ⟨rfl, rfl, rfl, congrArg (Value.int .i64) (w64_succ hlt (Int.natCast_nonneg _) (rs_max h0)), trivial⟩, hC, hO, h0, b1⟩
 ·skip
  exact ⟨0, rfl, rfl, _, b8, fr_ovl 21 ⟨rfl, rfl, rfl, rfl, trivial⟩, hC, hO, h0, a9⟩
 cases o18 with
 | nx _ => exact True.intro
 | rt r_ =>
  have hs := after_rt hs
  intro d4 b5 hK
  cases hs
  exact hK
 | br s14 =>
  have hs := after_br hs
  rintro d4 a0 ⟨σ, a7, rfl, hC, hO, h0, d5⟩
  refine c_sr ?_
  refine pl_val (.slice a1 a2 a3) (y_move rfl) ?_
  refine pl_val (.slice a1 a2 a3) (y_assign rfl) ?_
  refine c_nil ?_
  refine wp_ret ?_
  cases hs
  exact ⟨_, a1, a2, a3, a7, fr_ovl 21 ⟨rfl, trivial⟩, hC, d5, hO.top⟩

def k_impl_chainer__step (M : Nat → Prop) (w0 : World) (r : Bool) (a : Act) (w : World) : Prop :=
  ∃ (σ : Nat → Value) , a = fr 42 (ovl σ [(8, (.bool r))]) ∧ Chg [] w0 w
def s_impl_chainer__step (i : Int) (f : Int) (g : Int) (b0 : Int × (List (List Int)) × (List Bool) × (List (List Int)) × (List (List Int)) × Int × Int) : Option (Bool) :=
  (bif ((Int.tmod i 2) == 0) then (idx b0.2.2.2.1 f).bind fun x19 =>
  (idx b0.2.2.2.1 g).bind fun x23 =>
  (s_impl_sameList x19 x23).bind fun r28 =>
  some r28 else (idx b0.2.2.2.2.1 f).bind fun x30 =>
  (idx b0.2.2.2.2.1 g).bind fun x34 =>
  (s_impl_sameList x30 x34).bind fun r39 =>
  some r39)
set_option maxHeartbeats 4000000 in
theorem c_impl_chainer__step {M : Nat → Prop} {w : World} {vg0 : Nat} {va0x1 : Option Addr} {vn0x1 vc0x1 : Nat} {va0x2 : Option Addr} {vn0x2 vc0x2 : Nat} {va0x3 : Option Addr} {vn0x3 vc0x3 : Nat} {va0x4 : Option Addr} {vn0x4 vc0x4 : Nat} (i : Int) (f : Int) (g : Int) (b0 : Int × (List (List Int)) × (List Bool) × (List (List Int)) × (List (List Int)) × Int × Int) (hb0 : RBox M w vg0 58 [(.int .i64 b0.1), (.slice va0x1 vn0x1 vc0x1), (.slice va0x2 vn0x2 vc0x2), (.slice va0x3 vn0x3 vc0x3), (.slice va0x4 vn0x4 vc0x4), (.int .i64 b0.2.2.2.2.2.1), (.int .i64 b0.2.2.2.2.2.2)]) (hl0x1 : (RT.rs (RT.rs (RT.int .i64))).val M w (.slice va0x1 vn0x1 vc0x1) b0.2.1 ([])) (hl0x2 : (RT.rs RT.bool).val M w (.slice va0x2 vn0x2 vc0x2) b0.2.2.1 ([])) (hl0x3 : (RT.rs (RT.rs (RT.int .i64))).val M w (.slice va0x3 vn0x3 vc0x3) b0.2.2.2.1 ([])) (hl0x4 : (RT.rs (RT.rs (RT.int .i64))).val M w (.slice va0x4 vn0x4 vc0x4) b0.2.2.2.2.1 ([])) (hM : ∀ g, w.heap.size ≤ g → M g) {r : Bool} (hs : s_impl_chainer__step i f g b0 = some r) :
    Gives Try.prog 62 [(.pointer (some ⟨vg0, 0, none⟩)), (.int .i64 i), (.int .i64 f), (.int .i64 g)] w (fun v w' => v = (.bool r) ∧ Chg [] w w') := by
 refine calls_fr Try.func62 rfl Try.ntmps62 (Nat.le_of_ble_eq_true rfl) ?_
 have hO := Own.start (N := Nw w []) hM Nw.fut
 have hC := Chg.refl [] w
 unfold s_impl_chainer__step at hs
 refine wp_mono (Q := KPost (k_impl_chainer__step M w r)) ?_ (fun e a f0 h => ?_)
 rotate_left
 ·cases e
  case ret =>
   obtain ⟨σ, rfl, hrest⟩ := h
   exact ret1x Try.results62 (res_tmp rfl) ⟨rfl, hrest⟩
  all_goals exact (h : False).elim
 refine c_sr ?_
 refine pl_val (.bool false) (y_assign rfl) ?_
 refine c_nil ?_
 refine c_seq ?_
 refine c_sr ?_
 refine pl_val (.int .i64 i) (y_move rfl) ?_
 refine pl_val (.int .i64 (Int.tmod i 2)) (y_rem rfl rfl (by decide)) ?_
 refine pl_val (.bool ((Int.tmod i 2) == 0)) (y_eql rfl rfl) ?_
 refine c_nil ?_
 rcases bif_some hs with ⟨a8, hs⟩ | ⟨a8, hs⟩
 ·refine c_condT (congrArg Value.bool a8) ?_
  refine c_seq ?_
  refine x_start [] Mx rfl ?_
  have a2 := Chg.drew w
  generalize World.drew w = b4 at a2 ⊢
  have hl0x1 := hl0x1.ext a2
  have hl0x2 := hl0x2.ext a2
  have hl0x3 := hl0x3.ext a2
  have hl0x4 := hl0x4.ext a2
  have hb0 := hb0.ext a2
  have hC := hC.ext a2
  have hO := hO.ext a2
  have hS := Chg.refl [] b4
  refine x_p 0 (.pointer (some ⟨vg0, 0, none⟩)) rfl (by kernel_rfl)  (fun _ => y_move rfl) (fun _ => hS) ?_
  refine x_p 1 (.pointer (some ⟨vg0, 0, none⟩)) rfl (by kernel_rfl)  (fun _ => y_nilc rfl) (fun _ => hS) ?_
  refine x_p 2 (.pointer (some ⟨vg0, 3, none⟩)) rfl (by kernel_rfl)  (fun _ => y_faddr rfl Fa58x3) (fun _ => hS) ?_
  refine x_l 3 (.slice va0x3 vn0x3 vc0x3) rfl (by kernel_rfl)  (fun w' hw' => y_load rfl ((box_load Ag47 Sz47 hb0.1 [(.int .i64 b0.1), (.slice va0x1 vn0x1 vc0x1), (.slice va0x2 vn0x2 vc0x2)] [(.slice va0x3 vn0x3 vc0x3)] [(.slice va0x4 vn0x4 vc0x4), (.int .i64 b0.2.2.2.2.2.1), (.int .i64 b0.2.2.2.2.2.2)] rfl rfl (fun _ => rfl)) w' hw')) hS ?_
  refine x_p 4 (.int .i64 f) rfl (by kernel_rfl)  (fun _ => y_move rfl) (fun _ => hS) ?_
  obtain ⟨x19, b5, hs⟩ := bind_some hs
  obtain ⟨b6, b7, b8, a9⟩ := rs_idx Sl47 Sz37 hl0x3 b5
  refine x_p 5 (.pointer (some ⟨b6, b7, none⟩)) rfl (by kernel_rfl)  (fun _ => b8 _ _ _ _ _ _ _ _ _ rfl rfl) (fun _ => hS) ?_
  obtain ⟨f1, b9, a4⟩ := at_load Ag37 Sz37 (fun _ => rfl) a9
  obtain ⟨c0, c1, c2, rfl⟩ := rs_sl a4
  refine x_l 6 (.slice c0 c1 c2) rfl (by kernel_rfl)  (fun w' hw' => y_load rfl (b9 w' hw')) hS ?_
  refine x_p 7 (.pointer (some ⟨vg0, 0, none⟩)) rfl (by kernel_rfl)  (fun _ => y_move rfl) (fun _ => hS) ?_
  refine x_p 8 (.pointer (some ⟨vg0, 0, none⟩)) rfl (by kernel_rfl)  (fun _ => y_nilc rfl) (fun _ => hS) ?_
  refine x_p 9 (.pointer (some ⟨vg0, 3, none⟩)) rfl (by kernel_rfl)  (fun _ => y_faddr rfl Fa58x3) (fun _ => hS) ?_
  refine x_l 10 (.slice va0x3 vn0x3 vc0x3) rfl (by kernel_rfl)  (fun w' hw' => y_load rfl ((box_load Ag47 Sz47 hb0.1 [(.int .i64 b0.1), (.slice va0x1 vn0x1 vc0x1), (.slice va0x2 vn0x2 vc0x2)] [(.slice va0x3 vn0x3 vc0x3)] [(.slice va0x4 vn0x4 vc0x4), (.int .i64 b0.2.2.2.2.2.1), (.int .i64 b0.2.2.2.2.2.2)] rfl rfl (fun _ => rfl)) w' hw')) hS ?_
  refine x_p 11 (.int .i64 g) rfl (by kernel_rfl)  (fun _ => y_move rfl) (fun _ => hS) ?_
  obtain ⟨x23, c3, hs⟩ := bind_some hs
  obtain ⟨c4, c5, c6, b1⟩ := rs_idx Sl47 Sz37 hl0x3 c3
  refine x_p 12 (.pointer (some ⟨c4, c5, none⟩)) rfl (by kernel_rfl)  (fun _ => c6 _ _ _ _ _ _ _ _ _ rfl rfl) (fun _ => hS) ?_
  obtain ⟨f2, c7, a5⟩ := at_load Ag37 Sz37 (fun _ => rfl) b1
  obtain ⟨c8, c9, d0, rfl⟩ := rs_sl a5
  refine x_l 13 (.slice c8 c9 d0) rfl (by kernel_rfl)  (fun w' hw' => y_load rfl (c7 w' hw')) hS ?_
  refine x_one (i := 14) (by kernel_rfl) ?_
  obtain ⟨r28, d1, hs⟩ := bind_some hs
  refine xk_call (b := false) rfl  Bd45 rfl (c_impl_sameList (M := M) x19 x23 a4 a5 hO.fut d1) rfl (by rintro _ _ _ ⟨rfl, a0⟩; exact hS.ext a0) ?_
  rintro _ f3 ⟨rfl, a0⟩
  have hl0x1 := hl0x1.ext a0
  have hl0x2 := hl0x2.ext a0
  have hl0x3 := hl0x3.ext a0
  have hl0x4 := hl0x4.ext a0
  have hb0 := hb0.ext a0
  have a4 := a4.ext a0
  have a5 := a5.ext a0
  have a9 := at_ext a9 a0
  have b1 := at_ext b1 a0
  have hC := hC.ext a0
  have hO := hO.ext a0
  have hS := hS.ext a0
  refine x_p 15 (.bool r28) rfl (by kernel_rfl)  (fun _ => y_assign rfl) (fun _ => hS) ?_
  refine x_end (by kernel_rfl) ?_
  clear hS
  refine wp_ret ?_
  cases hs
  exact ⟨_, fr_ovl 42 ⟨rfl, trivial⟩, hC⟩
 refine c_condF (congrArg Value.bool a8) ?_
 refine wp_skip ?_
 refine c_seq ?_
 refine x_start [] Mx rfl ?_
 have a3 := Chg.drew w
 generalize World.drew w = d2 at a3 ⊢
 have hl0x1 := hl0x1.ext a3
 have hl0x2 := hl0x2.ext a3
 have hl0x3 := hl0x3.ext a3
 have hl0x4 := hl0x4.ext a3
 have hb0 := hb0.ext a3
 have hC := hC.ext a3
 have hO := hO.ext a3
 have hS := Chg.refl [] d2
 refine x_p 0 (.pointer (some ⟨vg0, 0, none⟩)) rfl (by kernel_rfl)  (fun _ => y_move rfl) (fun _ => hS) ?_
 refine x_p 1 (.pointer (some ⟨vg0, 0, none⟩)) rfl (by kernel_rfl)  (fun _ => y_nilc rfl) (fun _ => hS) ?_
 refine x_p 2 (.pointer (some ⟨vg0, 4, none⟩)) rfl (by kernel_rfl)  (fun _ => y_faddr rfl Fa58x4) (fun _ => hS) ?_
 refine x_l 3 (.slice va0x4 vn0x4 vc0x4) rfl (by kernel_rfl)  (fun w' hw' => y_load rfl ((box_load Ag47 Sz47 hb0.1 [(.int .i64 b0.1), (.slice va0x1 vn0x1 vc0x1), (.slice va0x2 vn0x2 vc0x2), (.slice va0x3 vn0x3 vc0x3)] [(.slice va0x4 vn0x4 vc0x4)] [(.int .i64 b0.2.2.2.2.2.1), (.int .i64 b0.2.2.2.2.2.2)] rfl rfl (fun _ => rfl)) w' hw')) hS ?_
 refine x_p 4 (.int .i64 f) rfl (by kernel_rfl)  (fun _ => y_move rfl) (fun _ => hS) ?_
 obtain ⟨x30, d3, hs⟩ := bind_some hs
 obtain ⟨d4, d5, d6, b2⟩ := rs_idx Sl47 Sz37 hl0x4 d3
 refine x_p 5 (.pointer (some ⟨d4, d5, none⟩)) rfl (by kernel_rfl)  (fun _ => d6 _ _ _ _ _ _ _ _ _ rfl rfl) (fun _ => hS) ?_
 obtain ⟨f4, d7, a6⟩ := at_load Ag37 Sz37 (fun _ => rfl) b2
 obtain ⟨d8, d9, e0, rfl⟩ := rs_sl a6
 refine x_l 6 (.slice d8 d9 e0) rfl (by kernel_rfl)  (fun w' hw' => y_load rfl (d7 w' hw')) hS ?_
 refine x_p 7 (.pointer (some ⟨vg0, 0, none⟩)) rfl (by kernel_rfl)  (fun _ => y_move rfl) (fun _ => hS) ?_
 refine x_p 8 (.pointer (some ⟨vg0, 0, none⟩)) rfl (by kernel_rfl)  (fun _ => y_nilc rfl) (fun _ => hS) ?_
 refine x_p 9 (.pointer (some ⟨vg0, 4, none⟩)) rfl (by kernel_rfl)  (fun _ => y_faddr rfl Fa58x4) (fun _ => hS) ?_
 refine x_l 10 (.slice va0x4 vn0x4 vc0x4) rfl (by kernel_rfl)  (fun w' hw' => y_load rfl ((box_load Ag47 Sz47 hb0.1 [(.int .i64 b0.1), (.slice va0x1 vn0x1 vc0x1), (.slice va0x2 vn0x2 vc0x2), (.slice va0x3 vn0x3 vc0x3)] [(.slice va0x4 vn0x4 vc0x4)] [(.int .i64 b0.2.2.2.2.2.1), (.int .i64 b0.2.2.2.2.2.2)] rfl rfl (fun _ => rfl)) w' hw')) hS ?_
 refine x_p 11 (.int .i64 g) rfl (by kernel_rfl)  (fun _ => y_move rfl) (fun _ => hS) ?_
 obtain ⟨x34, e1, hs⟩ := bind_some hs
 obtain ⟨e2, e3, e4, b3⟩ := rs_idx Sl47 Sz37 hl0x4 e1
 refine x_p 12 (.pointer (some ⟨e2, e3, none⟩)) rfl (by kernel_rfl)  (fun _ => e4 _ _ _ _ _ _ _ _ _ rfl rfl) (fun _ => hS) ?_
 obtain ⟨f5, e5, a7⟩ := at_load Ag37 Sz37 (fun _ => rfl) b3
 obtain ⟨e6, e7, e8, rfl⟩ := rs_sl a7
 refine x_l 13 (.slice e6 e7 e8) rfl (by kernel_rfl)  (fun w' hw' => y_load rfl (e5 w' hw')) hS ?_
 refine x_one (i := 14) (by kernel_rfl) ?_
 obtain ⟨r39, e9, hs⟩ := bind_some hs
 refine xk_call (b := false) rfl  Bd45 rfl (c_impl_sameList (M := M) x30 x34 a6 a7 hO.fut e9) rfl (by rintro _ _ _ ⟨rfl, a1⟩; exact hS.ext a1) ?_
 rintro _ f6 ⟨rfl, a1⟩
 have hl0x1 := hl0x1.ext a1
 have hl0x2 := hl0x2.ext a1
 have hl0x3 := hl0x3.ext a1
 have hl0x4 := hl0x4.ext a1
 have hb0 := hb0.ext a1
 have a6 := a6.ext a1
 have a7 := a7.ext a1
 have b2 := at_ext b2 a1
 have b3 := at_ext b3 a1
 have hC := hC.ext a1
 have hO := hO.ext a1
 have hS := hS.ext a1
 refine x_p 15 (.bool r39) rfl (by kernel_rfl)  (fun _ => y_assign rfl) (fun _ => hS) ?_
 refine x_end (by kernel_rfl) ?_
 clear hS
 refine wp_ret ?_
 cases hs
 exact ⟨_, fr_ovl 42 ⟨rfl, trivial⟩, hC⟩

theorem Bd41 : Bodied Try.prog 41 := bodied Try.func41 (by kernel_rfl) rfl

theorem Bd59 : Bodied Try.prog 59 := bodied Try.func59 (by kernel_rfl) rfl

theorem Bd61 : Bodied Try.prog 61 := bodied Try.func61 (by kernel_rfl) rfl

theorem Bd62 : Bodied Try.prog 62 := bodied Try.func62 (by kernel_rfl) rfl

def k_impl_IsUnreachableSet (M : Nat → Prop) (w0 : World) (r : Bool × Bool) (a : Act) (w : World) : Prop :=
  ∃ (σ : Nat → Value) , a = fr 100 (ovl σ [(4, (.bool r.1)), (5, (.bool r.2))]) ∧ Chg [] w0 w
def s_impl_IsUnreachableSet (a_ : Int × (List (Int × (List Int)))) (places : List Int) : Option (Bool × Bool) :=
  (s_impl_newChainer (a_.1, a_.2)).bind fun r5 =>
  ((bif (!r5.2) then some true else (s_impl_rises places).bind fun r12 =>
  (bif (!r12) then some true else (r5.1).bind fun p15 =>
  (s_impl_inSize places (p15.2.1.length : Int)).bind fun r22 =>
  some (!r22)))).bind fun s7 =>
  (bif s7 then some (false, false) else (r5.1).bind fun p25 =>
  (s_impl_marks places (p25.2.1.length : Int)).bind fun r32 =>
  ((idx r32 p25.2.2.2.2.2.1).bind fun x37 =>
  (bif (!x37) then some true else (idx r32 p25.2.2.2.2.2.2).bind fun x40 =>
  some x40)).bind fun s34 =>
  (bif s34 then some (false, true) else (forR (S := Unit) (R := Bool × Bool) (fun _ x77 s74 =>
  (forC (S := Unit) (R := Bool × Bool) (fun k95 s93 =>
  (idx r32 k95).bind fun x99 =>
  (bif (!x99) then (idx p25.2.2.1 k95).bind fun x102 =>
  (bif x102 then (s_impl_chainer__step 0 x77 k95 (p25.1, p25.2.1, p25.2.2.1, p25.2.2.2.1, p25.2.2.2.2.1, p25.2.2.2.2.2.1, p25.2.2.2.2.2.2)).bind fun r106 =>
  (bif r106 then some (.rt (false, true)) else (s_impl_chainer__step 1 x77 k95 (p25.1, p25.2.1, p25.2.2.1, p25.2.2.2.1, p25.2.2.2.2.1, p25.2.2.2.2.2.1, p25.2.2.2.2.2.2)).bind fun r109 =>
  (bif r109 then some (.rt (false, true)) else some (.nx ()))) else some (.nx ())) else some (.nx ()))) 0 (p25.2.1.length : Int) ()).bind fun o97 => after o97 (fun r_ => some (.rt r_)) (fun s93 =>
  some (.nx ()))) 0 places ()).bind fun o78 => after o78 (fun r_ => some r_) (fun s74 =>
  some (true, true))))
set_option maxHeartbeats 4000000 in
theorem c_impl_IsUnreachableSet {M : Nat → Prop} {w : World} {pa0 : Option Addr} {pn0 pc0 : Nat} {pa1 : Option Addr} {pn1 pc1 : Nat} (a_ : Int × (List (Int × (List Int)))) (places : List Int) (h0 : (RT.rs (RT.pr (RT.int .i64) (RT.rs (RT.int .i64)))).val M w (.slice pa0 pn0 pc0) a_.2 ([])) (h1 : (RT.rs (RT.int .i64)).val M w (.slice pa1 pn1 pc1) places ([])) (hM : ∀ g, w.heap.size ≤ g → M g) {r : Bool × Bool} (hs : s_impl_IsUnreachableSet a_ places = some r) :
    Gives Try.prog 26 [(.agg #[(.int .i64 a_.1), (.slice pa0 pn0 pc0)]), (.slice pa1 pn1 pc1)] w (fun v w' => v = (.tuple #[(.bool r.1), (.bool r.2)]) ∧ Chg [] w w') := by
 refine calls_fr Try.func26 rfl Try.ntmps26 (Nat.le_of_ble_eq_true rfl) ?_
 have hO := Own.start (N := Nw w []) hM Nw.fut
 have hC := Chg.refl [] w
 unfold s_impl_IsUnreachableSet at hs
 refine wp_mono (Q := KPost (k_impl_IsUnreachableSet M w r)) ?_ (fun e a g3 h => ?_)
 rotate_left
 ·cases e
  case ret =>
   obtain ⟨σ, rfl, hrest⟩ := h
   exact ret2x Try.results26 (res_tmp rfl) (res_tmp rfl) ⟨rfl, hrest⟩
  all_goals exact (h : False).elim
 refine c_sr ?_
 obtain ⟨a2, e5, i1, g4, f3, d2⟩ := new_block w [(.int .i64 a_.1), (.slice pa0 pn0 pc0)] 30
 refine pl_val (w' := a2) (.pointer (some ⟨e5, 0, none⟩)) (y_box rfl (by rw [i1, g4]; kernel_rfl)) ?_
 have h0 := h0.ext f3
 have h1 := h1.ext f3
 have hC := hC.ext f3
 have hO := hO.new1 f3 g4 d2.lt
 refine pl_val (.bool false) (y_assign rfl) ?_
 refine pl_val (.bool false) (y_assign rfl) ?_
 refine c_nil ?_
 refine c_sr ?_
 refine pl_val (.agg #[(.int .i64 a_.1), (.slice pa0 pn0 pc0)]) (y_load rfl ((box_load Ag30 Sz30 d2 [] [(.int .i64 a_.1), (.slice pa0 pn0 pc0)] [] rfl rfl (fun h => nomatch h)) _ (Chg.refl _ _))) ?_
 obtain ⟨r5, i2, hs⟩ := bind_some hs
 refine pl_call Bd41 rfl (c_impl_newChainer (M := M) (a_.1, a_.2) h0 hO.fut i2) ?_
 rintro _ a1 ⟨e6, a3, rfl, e9, e7, i3⟩
 have hO := hO.perm (R := [] ++ (([e5]) ++ ([]))) (by simp)
 have i4 := Own.pastL hO e9 i3
 have hK := (show Keeps w M (PastL M [] a2 a1 (a3 ++ ([]))) from Keeps.pastL hC.size (fun g hg => (hO.inN g hg).resolve_left (fun h => nomatch h)))
 have h0 := h0.ext e9
 have h1 := h1.ext e9
 have d2 := d2.cn e9
 have hC := hC.ext e9
 have hO := i4
 have h0 := h0.sub (M' := (PastL M [] a2 a1 (a3 ++ ([])))) (fun g hg => .inl hg.1)
 have h1 := h1.sub (M' := (PastL M [] a2 a1 (a3 ++ ([])))) (fun g hg => .inl hg.1)
 have hO := hO.perm (R := a3 ++ (([e5]) ++ ([]))) (by simp)
 refine pl_val (.tuple #[e6, (.bool r5.2)]) (y_move rfl) ?_
 refine pl_val e6 (y_extract rfl (by kernel_rfl)) ?_
 refine pl_val (.bool r5.2) (y_extract rfl (by kernel_rfl)) ?_
 refine pl_val e6 (y_assign rfl) ?_
 refine pl_val (.bool r5.2) (y_assign rfl) ?_
 refine c_nil ?_
 refine c_seq ?_
 refine c_seq ?_
 obtain ⟨s7, i5, hs⟩ := bind_some hs
 refine c_mid (I := fun a f5 => ∃ (σ : Nat → Value), a = fr 100 (ovl σ [(1, (.slice pa1 pn1 pc1)), (4, (.bool false)), (5, (.bool false)), (6, e6), (33, (.bool s7))]) ∧ Chg [] a1 f5) ?_ ?_
 ·replace hs := i5
  have hMid := Chg.refl [] a1
  refine c_region ?_
  refine pl_val (.bool r5.2) (y_move rfl) ?_
  refine pl_val (.bool (!r5.2)) (y_not rfl) ?_
  refine pl_val (.bool (!r5.2)) (y_move rfl) ?_
  rcases bif_some hs with ⟨e1, hs⟩ | ⟨e1, hs⟩
  ·skip
   refine pl_not (tg := 19) (by kernel_rfl) (congrArg Value.bool e1) ?_
   refine pl_not (tg := 19) (by kernel_rfl) (congrArg Value.bool e1) ?_
   refine pl_not (tg := 19) (by kernel_rfl) (congrArg Value.bool e1) ?_
   refine pl_val (.bool true) (y_pick_t (congrArg Value.bool e1) rfl) ?_
   refine pl_val (.bool true) (y_move rfl) ?_
   refine pl_not (tg := 24) (by kernel_rfl) (by rfl) ?_
   refine pl_not (tg := 24) (by kernel_rfl) (by rfl) ?_
   refine pl_not (tg := 24) (by kernel_rfl) (by rfl) ?_
   refine pl_not (tg := 24) (by kernel_rfl) (by rfl) ?_
   refine pl_not (tg := 24) (by kernel_rfl) (by rfl) ?_
   refine pl_not (tg := 24) (by kernel_rfl) (by rfl) ?_
   refine pl_not (tg := 24) (by kernel_rfl) (by rfl) ?_
   refine pl_not (tg := 24) (by kernel_rfl) (by rfl) ?_
   refine pl_val (.bool true) (y_pick_t (by rfl) rfl) ?_
   refine c_nil ?_
   cases hs
   exact ⟨_, fr_ovl 100 ⟨rfl, rfl, rfl, rfl, rfl, trivial⟩, hMid⟩
  refine pl_yes (.slice pa1 pn1 pc1) (tg := 19) (by kernel_rfl) (congrArg Value.bool e1) (y_move rfl) ?_
  obtain ⟨r12, i6, hs⟩ := bind_some hs
  refine pl_cally (tg := 19) (by kernel_rfl) (congrArg Value.bool e1) Bd59 rfl (c_impl_rises (M := (PastL M [] a2 a1 (a3 ++ ([])))) places h1 hO.fut i6) ?_
  rintro _ i7 ⟨rfl, e8⟩
  have h1 := h1.ext e8
  have d2 := d2.cn e8
  have e7 := e7.ext e8
  have hMid := hMid.ext e8
  have hC := hC.ext e8
  have hO := hO.ext e8
  refine pl_yes (.bool (!r12)) (tg := 19) (by kernel_rfl) (congrArg Value.bool e1) (y_not rfl) ?_
  refine pl_val (.bool (!r12)) (y_pick_f (congrArg Value.bool e1) rfl) ?_
  refine pl_val (.bool (!r12)) (y_move rfl) ?_
  rcases bif_some hs with ⟨b2, hs⟩ | ⟨b2, hs⟩
  ·skip
   refine pl_not (tg := 24) (by kernel_rfl) (congrArg Value.bool b2) ?_
   refine pl_not (tg := 24) (by kernel_rfl) (congrArg Value.bool b2) ?_
   refine pl_not (tg := 24) (by kernel_rfl) (congrArg Value.bool b2) ?_
   refine pl_not (tg := 24) (by kernel_rfl) (congrArg Value.bool b2) ?_
   refine pl_not (tg := 24) (by kernel_rfl) (congrArg Value.bool b2) ?_
   refine pl_not (tg := 24) (by kernel_rfl) (congrArg Value.bool b2) ?_
   refine pl_not (tg := 24) (by kernel_rfl) (congrArg Value.bool b2) ?_
   refine pl_not (tg := 24) (by kernel_rfl) (congrArg Value.bool b2) ?_
   refine pl_val (.bool true) (y_pick_t (congrArg Value.bool b2) rfl) ?_
   refine c_nil ?_
   cases hs
   exact ⟨_, fr_ovl 100 ⟨rfl, rfl, rfl, rfl, rfl, trivial⟩, hMid⟩
  refine pl_yes (.slice pa1 pn1 pc1) (tg := 24) (by kernel_rfl) (congrArg Value.bool b2) (y_move rfl) ?_
  refine pl_yes e6 (tg := 24) (by kernel_rfl) (congrArg Value.bool b2) (y_move rfl) ?_
  obtain ⟨p15, i9, hs⟩ := bind_some hs
  obtain ⟨f4, rfl, j0⟩ := op_get e7 i9
  obtain ⟨p4, p5, j1, f0, j2⟩ := po_open j0
  obtain ⟨p6, p7, p8, p9, rfl, rfl, j3, j4⟩ := j2
  obtain ⟨rfl, rfl⟩ := j3
  obtain ⟨q0, q1, j5, q2, rfl, rfl, j6, j7⟩ := j4
  obtain ⟨f6, f7, f8, rfl, f9⟩ := os_rel' j6
  obtain ⟨q3, q4, j8, q5, rfl, rfl, j9, k0⟩ := j7
  obtain ⟨g5, g6, g7, rfl, g8⟩ := os_rel' j9
  obtain ⟨q6, q7, k1, q8, rfl, rfl, k2, k3⟩ := k0
  obtain ⟨g9, h2, h3, rfl, h4⟩ := os_rel' k2
  obtain ⟨q9, r0, k4, r1, rfl, rfl, k5, k6⟩ := k3
  obtain ⟨h5, h6, h7, rfl, h8⟩ := os_rel' k5
  obtain ⟨r2, r3, r4, r6, rfl, rfl, k7, k8⟩ := k6
  obtain ⟨rfl, rfl⟩ := k7
  obtain ⟨rfl, rfl⟩ := k8
  have f0 : BoxV i7 f4 58 [(.int .i64 p15.1), (.slice f6 f7 f8), (.slice g5 g6 g7), (.slice g9 h2 h3), (.slice h5 h6 h7), (.int .i64 p15.2.2.2.2.2.1), (.int .i64 p15.2.2.2.2.2.2)] := f0
  have hO := hO.perm (R := ([f4]) ++ (j5 ++ (j8 ++ (k1 ++ (k4 ++ (([e5]) ++ ([]))))))) (by rw [j1]; simp)
  refine pl_yes (.pointer (some ⟨f4, 0, none⟩)) (tg := 24) (by kernel_rfl) (congrArg Value.bool b2) (y_nilc rfl) ?_
  refine pl_yes (.pointer (some ⟨f4, 1, none⟩)) (tg := 24) (by kernel_rfl) (congrArg Value.bool b2) (y_faddr rfl Fa58x1) ?_
  refine pl_yes (.slice f6 f7 f8) (tg := 24) (by kernel_rfl) (congrArg Value.bool b2) (y_load rfl ((box_load Ag47 Sz47 f0 [(.int .i64 p15.1)] [(.slice f6 f7 f8)] [(.slice g5 g6 g7), (.slice g9 h2 h3), (.slice h5 h6 h7), (.int .i64 p15.2.2.2.2.2.1), (.int .i64 p15.2.2.2.2.2.2)] rfl rfl (fun _ => rfl)) _ (Chg.refl _ _))) ?_
  refine pl_yes (.int .i64 (p15.2.1.length : Int)) (tg := 24) (by kernel_rfl) (congrArg Value.bool b2) (y_len' Sl47 (os_len f9) rfl) ?_
  obtain ⟨r22, k9, hs⟩ := bind_some hs
  refine pl_cally (tg := 24) (by kernel_rfl) (congrArg Value.bool b2) Bd60 rfl (c_impl_inSize (M := (PastL M [] a2 a1 (a3 ++ ([])))) places (p15.2.1.length : Int) h1 hO.fut k9) ?_
  rintro _ r7 ⟨rfl, d9⟩
  have h1 := h1.ext d9
  have d2 := d2.cn d9
  have f9 := f9.ext d9
  have g8 := g8.ext d9
  have h4 := h4.ext d9
  have h8 := h8.ext d9
  have f0 := f0.cn d9
  have hMid := hMid.ext d9
  have hC := hC.ext d9
  have hO := hO.ext d9
  refine pl_yes (.bool (!r22)) (tg := 24) (by kernel_rfl) (congrArg Value.bool b2) (y_not rfl) ?_
  refine pl_val (.bool (!r22)) (y_pick_f (congrArg Value.bool b2) rfl) ?_
  refine c_nil ?_
  cases hs
  exact ⟨_, fr_ovl 100 ⟨rfl, rfl, rfl, rfl, rfl, trivial⟩, hMid⟩
 rintro f1 f5 ⟨σ, rfl, f2⟩
 have h1 := h1.ext f2
 have d2 := d2.cn f2
 have e7 := e7.ext f2
 have hC := hC.ext f2
 have hO := hO.ext f2
 rcases bif_some hs with ⟨g0, hs⟩ | ⟨g0, hs⟩
 ·refine c_condT (congrArg Value.bool g0) ?_
  refine c_sr ?_
  refine pl_val (.bool false) (y_assign rfl) ?_
  refine pl_val (.bool false) (y_assign rfl) ?_
  refine c_nil ?_
  refine wp_ret ?_
  cases hs
  exact ⟨_, fr_ovl 100 ⟨rfl, rfl, trivial⟩, hC⟩
 refine c_condF (congrArg Value.bool g0) ?_
 refine wp_skip ?_
 refine c_sr ?_
 refine pl_val (.slice pa1 pn1 pc1) (y_move rfl) ?_
 refine pl_val e6 (y_move rfl) ?_
 obtain ⟨p25, l0, hs⟩ := bind_some hs
 obtain ⟨a0, rfl, l1⟩ := op_get e7 l0
 obtain ⟨r8, r9, l2, a4, l3⟩ := po_open l1
 obtain ⟨s0, s1, s2, s3, rfl, rfl, l4, l5⟩ := l3
 obtain ⟨rfl, rfl⟩ := l4
 obtain ⟨s4, s5, b3, s6, rfl, rfl, l6, l7⟩ := l5
 obtain ⟨b4, b5, b6, rfl, a5⟩ := os_rel' l6
 obtain ⟨s8, s9, b7, t0, rfl, rfl, l8, l9⟩ := l7
 obtain ⟨c0, c1, c2, rfl, a6⟩ := os_rel' l8
 obtain ⟨t1, t2, b8, t3, rfl, rfl, m0, m1⟩ := l9
 obtain ⟨c6, c7, c8, rfl, a7⟩ := os_rel' m0
 obtain ⟨t4, t5, b9, t6, rfl, rfl, m2, m3⟩ := m1
 obtain ⟨c9, d0, d1, rfl, a8⟩ := os_rel' m2
 obtain ⟨t7, t8, t9, u0, rfl, rfl, m4, m5⟩ := m3
 obtain ⟨rfl, rfl⟩ := m4
 obtain ⟨rfl, rfl⟩ := m5
 have a4 : BoxV f5 a0 58 [(.int .i64 p25.1), (.slice b4 b5 b6), (.slice c0 c1 c2), (.slice c6 c7 c8), (.slice c9 d0 d1), (.int .i64 p25.2.2.2.2.2.1), (.int .i64 p25.2.2.2.2.2.2)] := a4
 have hO := hO.perm (R := ([a0]) ++ (b3 ++ (b7 ++ (b8 ++ (b9 ++ (([e5]) ++ ([]))))))) (by rw [l2]; simp)
 refine pl_val (.pointer (some ⟨a0, 0, none⟩)) (y_nilc rfl) ?_
 refine pl_val (.pointer (some ⟨a0, 1, none⟩)) (y_faddr rfl Fa58x1) ?_
 refine pl_val (.slice b4 b5 b6) (y_load rfl ((box_load Ag47 Sz47 a4 [(.int .i64 p25.1)] [(.slice b4 b5 b6)] [(.slice c0 c1 c2), (.slice c6 c7 c8), (.slice c9 d0 d1), (.int .i64 p25.2.2.2.2.2.1), (.int .i64 p25.2.2.2.2.2.2)] rfl rfl (fun _ => rfl)) _ (Chg.refl _ _))) ?_
 refine pl_val (.int .i64 (p25.2.1.length : Int)) (y_len' Sl47 (os_len a5) rfl) ?_
 obtain ⟨r32, m6, hs⟩ := bind_some hs
 refine pl_call Bd61 rfl (c_impl_marks (M := (PastL M [] a2 a1 (a3 ++ ([])))) places (p25.2.1.length : Int) h1 hO.fut m6) ?_
 rintro _ h9 ⟨d4, d5, d6, d3, rfl, e2, a9, m7⟩
 have h1 := h1.ext e2
 have d2 := d2.cn e2
 have a5 := a5.ext e2
 have a6 := a6.ext e2
 have a7 := a7.ext e2
 have a8 := a8.ext e2
 have a4 := a4.cn e2
 have hC := hC.ext e2
 have hO := Own.join0 hO e2 m7
 have hO := hO.perm (R := d3 ++ (([a0]) ++ (b3 ++ (b7 ++ (b8 ++ (b9 ++ (([e5]) ++ ([])))))))) (by simp)
 refine pl_val (.slice d4 d5 d6) (y_assign rfl) ?_
 refine c_nil ?_
 refine c_seq ?_
 refine c_seq ?_
 obtain ⟨s34, m8, hs⟩ := bind_some hs
 refine c_mid (I := fun a i0 => ∃ (σ : Nat → Value), a = fr 100 (ovl σ [(1, (.slice pa1 pn1 pc1)), (4, (.bool false)), (5, (.bool false)), (6, (.pointer (some ⟨a0, 0, none⟩))), (8, (.slice d4 d5 d6)), (57, (.bool s34))]) ∧ Chg [] h9 i0) ?_ ?_
 ·replace hs := m8
  have hMid := Chg.refl [] h9
  refine c_region ?_
  refine pl_val (.slice d4 d5 d6) (y_move rfl) ?_
  refine pl_val (.pointer (some ⟨a0, 0, none⟩)) (y_move rfl) ?_
  refine pl_val (.pointer (some ⟨a0, 0, none⟩)) (y_nilc rfl) ?_
  refine pl_val (.pointer (some ⟨a0, 5, none⟩)) (y_faddr rfl Fa58x5) ?_
  refine pl_val (.int .i64 p25.2.2.2.2.2.1) (y_load rfl ((box_load Ag3 Sz3 a4 [(.int .i64 p25.1), (.slice b4 b5 b6), (.slice c0 c1 c2), (.slice c6 c7 c8), (.slice c9 d0 d1)] [(.int .i64 p25.2.2.2.2.2.1)] [(.int .i64 p25.2.2.2.2.2.2)] rfl rfl (fun _ => rfl)) _ (Chg.refl _ _))) ?_
  obtain ⟨x37, m9, hs⟩ := bind_some hs
  obtain ⟨n0, u1, u2, u3, n1, n2, u4⟩ := os_idx Sl56 Sz4 a9 m9
  refine pl_val (.pointer (some ⟨n0, 0 + Int.toNat p25.2.2.2.2.2.1 * 1, none⟩)) (n1 _ _ _ _ _ _ _ _ _ rfl rfl) ?_
  refine pl_val (.bool x37) (y_load rfl ((at_load_bool Ag4 Sz4 n2) _ (Chg.refl _ _))) ?_
  refine pl_val (.bool (!x37)) (y_not rfl) ?_
  refine pl_val (.bool (!x37)) (y_move rfl) ?_
  rcases bif_some hs with ⟨c3, hs⟩ | ⟨c3, hs⟩
  ·skip
   refine pl_not (tg := 49) (by kernel_rfl) (congrArg Value.bool c3) ?_
   refine pl_not (tg := 49) (by kernel_rfl) (congrArg Value.bool c3) ?_
   refine pl_not (tg := 49) (by kernel_rfl) (congrArg Value.bool c3) ?_
   refine pl_not (tg := 49) (by kernel_rfl) (congrArg Value.bool c3) ?_
   refine pl_not (tg := 49) (by kernel_rfl) (congrArg Value.bool c3) ?_
   refine pl_not (tg := 49) (by kernel_rfl) (congrArg Value.bool c3) ?_
   refine pl_not (tg := 49) (by kernel_rfl) (congrArg Value.bool c3) ?_
   refine pl_val (.bool true) (y_pick_t (congrArg Value.bool c3) rfl) ?_
   refine c_nil ?_
   cases hs
   exact ⟨_, fr_ovl 100 ⟨rfl, rfl, rfl, rfl, rfl, rfl, trivial⟩, hMid⟩
  refine pl_yes (.slice d4 d5 d6) (tg := 49) (by kernel_rfl) (congrArg Value.bool c3) (y_move rfl) ?_
  refine pl_yes (.pointer (some ⟨a0, 0, none⟩)) (tg := 49) (by kernel_rfl) (congrArg Value.bool c3) (y_move rfl) ?_
  refine pl_yes (.pointer (some ⟨a0, 0, none⟩)) (tg := 49) (by kernel_rfl) (congrArg Value.bool c3) (y_nilc rfl) ?_
  refine pl_yes (.pointer (some ⟨a0, 6, none⟩)) (tg := 49) (by kernel_rfl) (congrArg Value.bool c3) (y_faddr rfl Fa58x6) ?_
  refine pl_yes (.int .i64 p25.2.2.2.2.2.2) (tg := 49) (by kernel_rfl) (congrArg Value.bool c3) (y_load rfl ((box_load Ag3 Sz3 a4 [(.int .i64 p25.1), (.slice b4 b5 b6), (.slice c0 c1 c2), (.slice c6 c7 c8), (.slice c9 d0 d1), (.int .i64 p25.2.2.2.2.2.1)] [(.int .i64 p25.2.2.2.2.2.2)] [] rfl rfl (fun _ => rfl)) _ (Chg.refl _ _))) ?_
  obtain ⟨x40, n3, hs⟩ := bind_some hs
  obtain ⟨n4, u5, u6, u7, n5, n6, u9⟩ := os_idx Sl56 Sz4 a9 n3
  refine pl_yes (.pointer (some ⟨n4, 0 + Int.toNat p25.2.2.2.2.2.2 * 1, none⟩)) (tg := 49) (by kernel_rfl) (congrArg Value.bool c3) (n5 _ _ _ _ _ _ _ _ _ rfl rfl) ?_
  refine pl_yes (.bool x40) (tg := 49) (by kernel_rfl) (congrArg Value.bool c3) (y_load rfl ((at_load_bool Ag4 Sz4 n6) _ (Chg.refl _ _))) ?_
  refine pl_val (.bool x40) (y_pick_f (congrArg Value.bool c3) rfl) ?_
  refine c_nil ?_
  cases hs
  exact ⟨_, fr_ovl 100 ⟨rfl, rfl, rfl, rfl, rfl, rfl, trivial⟩, hMid⟩
 rintro f1 i0 ⟨σ, rfl, e0⟩
 have h1 := h1.ext e0
 have d2 := d2.cn e0
 have a5 := a5.ext e0
 have a6 := a6.ext e0
 have a7 := a7.ext e0
 have a8 := a8.ext e0
 have a4 := a4.cn e0
 have a9 := a9.ext e0
 have hC := hC.ext e0
 have hO := hO.ext e0
 rcases bif_some hs with ⟨g1, hs⟩ | ⟨g1, hs⟩
 ·refine c_condT (congrArg Value.bool g1) ?_
  refine c_sr ?_
  refine pl_val (.bool false) (y_assign rfl) ?_
  refine pl_val (.bool true) (y_assign rfl) ?_
  refine c_nil ?_
  refine wp_ret ?_
  cases hs
  exact ⟨_, fr_ovl 100 ⟨rfl, rfl, trivial⟩, hC⟩
 refine c_condF (congrArg Value.bool g1) ?_
 refine wp_skip ?_
 refine c_seq ?_
 refine c_sr ?_
 refine pl_val (.slice pa1 pn1 pc1) (y_move rfl) ?_
 refine pl_val (.int .i64 (places.length : Int)) (y_len' Sl37 (rs_len h1) rfl) ?_
 refine pl_val (.int .i64 0) (y_move rfl) ?_
 refine c_nil ?_
 have hO := hO.fr6
 have hO := hO.drop
 obtain ⟨o78, n7, hs⟩ := bind_some hs
 refine wp_block ?_
 refine wp_forR (id := 0) (I := fun i_ xs_ s74 a b0 => ∃ d7 : Nat, i_ = (d7 : Int) ∧ List.drop d7 places = xs_ ∧ (∃ (σ : Nat → Value), a = fr 100 (ovl σ [(6, (.pointer (some ⟨a0, 0, none⟩))), (8, (.slice d4 d5 d6)), (58, (.slice pa1 pn1 pc1)), (59, (.int .i64 (places.length : Int))), (60, (.int .i64 (d7 : Int)))]) ∧ Chg [] w b0 ∧ Own (Nw w []) (PastL M [] a2 a1 (a3 ++ ([]))) b0 (d3 ++ (([a0]) ++ (b3 ++ (b7 ++ (b8 ++ (b9 ++ [])))))) ∧ (RT.rs (RT.int .i64)).val (PastL M [] a2 a1 (a3 ++ ([]))) b0 (.slice pa1 pn1 pc1) places ([]) ∧ (RT.os 37 (RT.rs (RT.int .i64))).val (PastL M [] a2 a1 (a3 ++ ([]))) b0 (.slice b4 b5 b6) p25.2.1 b3 ∧ (RT.os 4 RT.bool).val (PastL M [] a2 a1 (a3 ++ ([]))) b0 (.slice c0 c1 c2) p25.2.2.1 b7 ∧ (RT.os 37 (RT.os 3 (RT.int .i64))).val (PastL M [] a2 a1 (a3 ++ ([]))) b0 (.slice c6 c7 c8) p25.2.2.2.1 b8 ∧ (RT.os 37 (RT.os 3 (RT.int .i64))).val (PastL M [] a2 a1 (a3 ++ ([]))) b0 (.slice c9 d0 d1) p25.2.2.2.2.1 b9 ∧ BoxV b0 a0 58 [(.int .i64 p25.1), (.slice b4 b5 b6), (.slice c0 c1 c2), (.slice c6 c7 c8), (.slice c9 d0 d1), (.int .i64 p25.2.2.2.2.2.1), (.int .i64 p25.2.2.2.2.2.2)] ∧ (RT.os 4 RT.bool).val (PastL M [] a2 a1 (a3 ++ ([]))) b0 (.slice d4 d5 d6) r32 d3)) (J := fun s74 a b0 => ∃ (σ : Nat → Value), a = fr 100 (ovl σ []) ∧ Chg [] w b0 ∧ Own (Nw w []) (PastL M [] a2 a1 (a3 ++ ([]))) b0 (d3 ++ (([a0]) ++ (b3 ++ (b7 ++ (b8 ++ (b9 ++ [])))))) ∧ (RT.rs (RT.int .i64)).val (PastL M [] a2 a1 (a3 ++ ([]))) b0 (.slice pa1 pn1 pc1) places ([]) ∧ (RT.os 37 (RT.rs (RT.int .i64))).val (PastL M [] a2 a1 (a3 ++ ([]))) b0 (.slice b4 b5 b6) p25.2.1 b3 ∧ (RT.os 4 RT.bool).val (PastL M [] a2 a1 (a3 ++ ([]))) b0 (.slice c0 c1 c2) p25.2.2.1 b7 ∧ (RT.os 37 (RT.os 3 (RT.int .i64))).val (PastL M [] a2 a1 (a3 ++ ([]))) b0 (.slice c6 c7 c8) p25.2.2.2.1 b8 ∧ (RT.os 37 (RT.os 3 (RT.int .i64))).val (PastL M [] a2 a1 (a3 ++ ([]))) b0 (.slice c9 d0 d1) p25.2.2.2.2.1 b9 ∧ BoxV b0 a0 58 [(.int .i64 p25.1), (.slice b4 b5 b6), (.slice c0 c1 c2), (.slice c6 c7 c8), (.slice c9 d0 d1), (.int .i64 p25.2.2.2.2.2.1), (.int .i64 p25.2.2.2.2.2.2)] ∧ (RT.os 4 RT.bool).val (PastL M [] a2 a1 (a3 ++ ([]))) b0 (.slice d4 d5 d6) r32 d3) (K := (k_impl_IsUnreachableSet M w)) ?_ ?_ places 0 () o78 _ _ ?_ n7 ?_
 ·rintro _ s74 a b0 ⟨d7, rfl, hd, σ, rfl, hC, hO, h1, a5, a6, a7, a8, a4, a9⟩
  have hlt := drop_nil_ge hd
  refine c_sr ?_
  refine pl_val (.bool (decide ((d7 : Int) < (places.length : Int)))) (y_lss rfl rfl) ?_
  refine c_nil ?_
  refine c_seq ?_
  refine c_condF (congrArg Value.bool (decide_eq_false hlt)) ?_
  refine wp_exit ?_
  have hO := hO.fr5
  have hO := hO.fr5
  have hO := hO.fr5
  have hO := hO.fr5
  have hO := hO.fr5
  have hO := hO.fr5
  exact ⟨rfl, _, fr_ovl 100 trivial, hC, hO, h1, a5, a6, a7, a8, a4, a9⟩
 ·rintro _ x77 xs_ s74 o78 a b0 ⟨d7, rfl, hd, σ, rfl, hC, hO, h1, a5, a6, a7, a8, a4, a9⟩ hs
  have hlt := drop_cons_lt hd
  have n8 := drop_cons_idx hd
  refine c_sr ?_
  refine pl_val (.bool (decide ((d7 : Int) < (places.length : Int)))) (y_lss rfl rfl) ?_
  refine c_nil ?_
  refine c_seq ?_
  refine c_condT (congrArg Value.bool (decide_eq_true hlt)) ?_
  refine wp_skip ?_
  refine c_seq ?_
  refine wp_block ?_
  refine c_sr ?_
  obtain ⟨n9, o0, o1, o2⟩ := rs_idx Sl37 Sz3 h1 n8
  refine pl_val (.pointer (some ⟨n9, o0, none⟩)) (o1 _ _ _ _ _ _ _ _ _ rfl rfl) ?_
  refine pl_val (.int .i64 x77) (y_load rfl ((at_load_int Ag3 Sz3 o2) _ (Chg.refl _ _))) ?_
  refine pl_val (.int .i64 x77) (y_assign rfl) ?_
  refine c_nil ?_
  refine c_sr ?_
  refine pl_val (.pointer (some ⟨a0, 0, none⟩)) (y_move rfl) ?_
  refine pl_val (.pointer (some ⟨a0, 0, none⟩)) (y_nilc rfl) ?_
  refine pl_val (.pointer (some ⟨a0, 1, none⟩)) (y_faddr rfl Fa58x1) ?_
  refine pl_val (.slice b4 b5 b6) (y_load rfl ((box_load Ag47 Sz47 a4 [(.int .i64 p25.1)] [(.slice b4 b5 b6)] [(.slice c0 c1 c2), (.slice c6 c7 c8), (.slice c9 d0 d1), (.int .i64 p25.2.2.2.2.2.1), (.int .i64 p25.2.2.2.2.2.2)] rfl rfl (fun _ => rfl)) _ (Chg.refl _ _))) ?_
  refine pl_val (.int .i64 (p25.2.1.length : Int)) (y_len' Sl47 (os_len a5) rfl) ?_
  refine pl_val (.int .i64 0) (y_move rfl) ?_
  refine c_nil ?_
  obtain ⟨o97, o3, hs⟩ := bind_some hs
  refine wp_block ?_
  refine wp_forC (id := 2) (p25.2.1.length : Int) (I := fun k95 s93 a b1 => ∃ (σ : Nat → Value), a = fr 100 (ovl σ [(6, (.pointer (some ⟨a0, 0, none⟩))), (8, (.slice d4 d5 d6)), (10, (.int .i64 x77)), (58, (.slice pa1 pn1 pc1)), (59, (.int .i64 (places.length : Int))), (60, (.int .i64 (d7 : Int))), (68, (.int .i64 (p25.2.1.length : Int))), (69, (.int .i64 k95))]) ∧ Chg [] w b1 ∧ Own (Nw w []) (PastL M [] a2 a1 (a3 ++ ([]))) b1 (d3 ++ (([a0]) ++ (b3 ++ (b7 ++ (b8 ++ (b9 ++ [])))))) ∧ (RT.rs (RT.int .i64)).val (PastL M [] a2 a1 (a3 ++ ([]))) b1 (.slice pa1 pn1 pc1) places ([]) ∧ (RT.os 37 (RT.rs (RT.int .i64))).val (PastL M [] a2 a1 (a3 ++ ([]))) b1 (.slice b4 b5 b6) p25.2.1 b3 ∧ (RT.os 4 RT.bool).val (PastL M [] a2 a1 (a3 ++ ([]))) b1 (.slice c0 c1 c2) p25.2.2.1 b7 ∧ (RT.os 37 (RT.os 3 (RT.int .i64))).val (PastL M [] a2 a1 (a3 ++ ([]))) b1 (.slice c6 c7 c8) p25.2.2.2.1 b8 ∧ (RT.os 37 (RT.os 3 (RT.int .i64))).val (PastL M [] a2 a1 (a3 ++ ([]))) b1 (.slice c9 d0 d1) p25.2.2.2.2.1 b9 ∧ BoxV b1 a0 58 [(.int .i64 p25.1), (.slice b4 b5 b6), (.slice c0 c1 c2), (.slice c6 c7 c8), (.slice c9 d0 d1), (.int .i64 p25.2.2.2.2.2.1), (.int .i64 p25.2.2.2.2.2.2)] ∧ (RT.os 4 RT.bool).val (PastL M [] a2 a1 (a3 ++ ([]))) b1 (.slice d4 d5 d6) r32 d3) (J := fun s93 a b1 => ∃ (σ : Nat → Value), a = fr 100 (ovl σ [(6, (.pointer (some ⟨a0, 0, none⟩))), (8, (.slice d4 d5 d6)), (58, (.slice pa1 pn1 pc1)), (59, (.int .i64 (places.length : Int))), (60, (.int .i64 (d7 : Int)))]) ∧ Chg [] w b1 ∧ Own (Nw w []) (PastL M [] a2 a1 (a3 ++ ([]))) b1 (d3 ++ (([a0]) ++ (b3 ++ (b7 ++ (b8 ++ (b9 ++ [])))))) ∧ (RT.rs (RT.int .i64)).val (PastL M [] a2 a1 (a3 ++ ([]))) b1 (.slice pa1 pn1 pc1) places ([]) ∧ (RT.os 37 (RT.rs (RT.int .i64))).val (PastL M [] a2 a1 (a3 ++ ([]))) b1 (.slice b4 b5 b6) p25.2.1 b3 ∧ (RT.os 4 RT.bool).val (PastL M [] a2 a1 (a3 ++ ([]))) b1 (.slice c0 c1 c2) p25.2.2.1 b7 ∧ (RT.os 37 (RT.os 3 (RT.int .i64))).val (PastL M [] a2 a1 (a3 ++ ([]))) b1 (.slice c6 c7 c8) p25.2.2.2.1 b8 ∧ (RT.os 37 (RT.os 3 (RT.int .i64))).val (PastL M [] a2 a1 (a3 ++ ([]))) b1 (.slice c9 d0 d1) p25.2.2.2.2.1 b9 ∧ BoxV b1 a0 58 [(.int .i64 p25.1), (.slice b4 b5 b6), (.slice c0 c1 c2), (.slice c6 c7 c8), (.slice c9 d0 d1), (.int .i64 p25.2.2.2.2.2.1), (.int .i64 p25.2.2.2.2.2.2)] ∧ (RT.os 4 RT.bool).val (PastL M [] a2 a1 (a3 ++ ([]))) b1 (.slice d4 d5 d6) r32 d3) (K := (k_impl_IsUnreachableSet M w)) ?_ ?_ 0 () o97 _ _ ?_ o3 ?_
  ·rintro k95 s93 a b1 ⟨σ, rfl, hC, hO, h1, a5, a6, a7, a8, a4, a9⟩ hlt
   refine c_sr ?_
   refine pl_val (.bool (decide (k95 < (p25.2.1.length : Int)))) (y_lss rfl rfl) ?_
   refine c_nil ?_
   refine c_seq ?_
   refine c_condF (congrArg Value.bool (decide_eq_false hlt)) ?_
   refine wp_exit ?_
   have hO := hO.fr5
   have hO := hO.fr5
   have hO := hO.fr5
   have hO := hO.fr5
   have hO := hO.fr5
   have hO := hO.fr5
   exact ⟨rfl, _, fr_ovl 100 ⟨rfl, rfl, rfl, rfl, rfl, trivial⟩, hC, hO, h1, a5, a6, a7, a8, a4, a9⟩
  ·rintro k95 s93 o97 a b1 ⟨σ, rfl, hC, hO, h1, a5, a6, a7, a8, a4, a9⟩ hlt hw hs
   refine c_sr ?_
   refine pl_val (.bool (decide (k95 < (p25.2.1.length : Int)))) (y_lss rfl rfl) ?_
   refine c_nil ?_
   refine c_seq ?_
   refine c_condT (congrArg Value.bool (decide_eq_true hlt)) ?_
   refine wp_skip ?_
   refine c_seq ?_
   refine wp_block ?_
   refine c_sr ?_
   refine pl_val (.int .i64 k95) (y_move rfl) ?_
   refine pl_val (.int .i64 k95) (y_assign rfl) ?_
   refine c_nil ?_
   refine c_sr ?_
   refine pl_val (.slice d4 d5 d6) (y_move rfl) ?_
   refine pl_val (.int .i64 k95) (y_move rfl) ?_
   obtain ⟨x99, o4, hs⟩ := bind_some hs
   obtain ⟨o5, v0, v1, v2, o6, o7, v3⟩ := os_idx Sl56 Sz4 a9 o4
   refine pl_val (.pointer (some ⟨o5, 0 + Int.toNat k95 * 1, none⟩)) (o6 _ _ _ _ _ _ _ _ _ rfl rfl) ?_
   refine pl_val (.bool x99) (y_load rfl ((at_load_bool Ag4 Sz4 o7) _ (Chg.refl _ _))) ?_
   refine pl_val (.bool (!x99)) (y_not rfl) ?_
   refine pl_val (.bool (!x99)) (y_move rfl) ?_
   rcases bif_some hs with ⟨c4, hs⟩ | ⟨c4, hs⟩
   ·skip
    refine pl_yes (.pointer (some ⟨a0, 0, none⟩)) (tg := 77) (by kernel_rfl) (congrArg Value.bool c4) (y_move rfl) ?_
    refine pl_yes (.pointer (some ⟨a0, 0, none⟩)) (tg := 77) (by kernel_rfl) (congrArg Value.bool c4) (y_nilc rfl) ?_
    refine pl_yes (.pointer (some ⟨a0, 2, none⟩)) (tg := 77) (by kernel_rfl) (congrArg Value.bool c4) (y_faddr rfl Fa58x2) ?_
    refine pl_yes (.slice c0 c1 c2) (tg := 77) (by kernel_rfl) (congrArg Value.bool c4) (y_load rfl ((box_load Ag56 Sz56 a4 [(.int .i64 p25.1), (.slice b4 b5 b6)] [(.slice c0 c1 c2)] [(.slice c6 c7 c8), (.slice c9 d0 d1), (.int .i64 p25.2.2.2.2.2.1), (.int .i64 p25.2.2.2.2.2.2)] rfl rfl (fun _ => rfl)) _ (Chg.refl _ _))) ?_
    refine pl_yes (.int .i64 k95) (tg := 77) (by kernel_rfl) (congrArg Value.bool c4) (y_move rfl) ?_
    obtain ⟨x102, o8, hs⟩ := bind_some hs
    obtain ⟨o9, v4, v5, v6, p0, p1, v7⟩ := os_idx Sl56 Sz4 a6 o8
    refine pl_yes (.pointer (some ⟨o9, 0 + Int.toNat k95 * 1, none⟩)) (tg := 77) (by kernel_rfl) (congrArg Value.bool c4) (p0 _ _ _ _ _ _ _ _ _ rfl rfl) ?_
    refine pl_yes (.bool x102) (tg := 77) (by kernel_rfl) (congrArg Value.bool c4) (y_load rfl ((at_load_bool Ag4 Sz4 p1) _ (Chg.refl _ _))) ?_
    refine pl_val (.bool x102) (y_pick_t (congrArg Value.bool c4) rfl) ?_
    refine pl_val (.bool x102) (y_move rfl) ?_
    rcases bif_some hs with ⟨c5, hs⟩ | ⟨c5, hs⟩
    ·skip
     refine pl_yes (.pointer (some ⟨a0, 0, none⟩)) (tg := 86) (by kernel_rfl) (congrArg Value.bool c5) (y_move rfl) ?_
     refine pl_yes (.int .i64 x77) (tg := 86) (by kernel_rfl) (congrArg Value.bool c5) (y_move rfl) ?_
     refine pl_yes (.int .i64 k95) (tg := 86) (by kernel_rfl) (congrArg Value.bool c5) (y_move rfl) ?_
     have hO := hO.fr5
     have hO := hO.fr5
     have hO := hO.fr5
     have hO := hO.fr5
     have hO := hO.fr5
     obtain ⟨r106, p2, hs⟩ := bind_some hs
     refine pl_cally (tg := 86) (by kernel_rfl) (congrArg Value.bool c5) Bd62 rfl (c_impl_chainer__step (M := (Less (Less (Less (Less (Less (PastL M [] a2 a1 (a3 ++ ([]))) ([a0])) b3) b7) b8) b9)) 0 x77 k95 (p25.1, p25.2.1, p25.2.2.1, p25.2.2.2.1, p25.2.2.2.2.1, p25.2.2.2.2.2.1, p25.2.2.2.2.2.2) (show RBox (Less (Less (Less (Less (Less (PastL M [] a2 a1 (a3 ++ ([]))) ([a0])) b3) b7) b8) b9) _ a0 58 [(.int .i64 p25.1), (.slice b4 b5 b6), (.slice c0 c1 c2), (.slice c6 c7 c8), (.slice c9 d0 d1), (.int .i64 p25.2.2.2.2.2.1), (.int .i64 p25.2.2.2.2.2.2)] from ⟨a4, fun h => by simp [Less] at h⟩) ((((((Frz.os (Frz.rs Frz.int))).val (a5.sub Less.sub) Less.sub Less.not).sub Less.sub).sub Less.sub).sub Less.sub) (((((Frz.os Frz.bool)).val ((a6.sub Less.sub).sub Less.sub) Less.sub Less.not).sub Less.sub).sub Less.sub) ((((Frz.os (Frz.os Frz.int))).val (((a7.sub Less.sub).sub Less.sub).sub Less.sub) Less.sub Less.not).sub Less.sub) (((Frz.os (Frz.os Frz.int))).val ((((a8.sub Less.sub).sub Less.sub).sub Less.sub).sub Less.sub) Less.sub Less.not) ((((hO.less).less).less).less).less.fut p2) ?_
     rintro _ v8 ⟨rfl, e3⟩
     have hO := hO.fr4
     have hO := hO.fr4
     have hO := hO.fr4
     have hO := hO.fr4
     have hO := hO.fr4
     have hO := hO.perm (R := [] ++ (([a0]) ++ (b3 ++ (b7 ++ (b8 ++ (b9 ++ (d3 ++ ([])))))))) (by simp)
     have h1 := h1.ext e3
     have a5 := a5.ext e3
     have a6 := a6.ext e3
     have a7 := a7.ext e3
     have a8 := a8.ext e3
     have a4 := a4.cn e3
     have a9 := a9.ext e3
     have hC := hC.ext e3
     have hO := hO.ext e3
     have hO := hO.perm (R := ([a0]) ++ (b3 ++ (b7 ++ (b8 ++ (b9 ++ (d3 ++ ([]))))))) (by simp)
     refine pl_yes (.bool r106) (tg := 86) (by kernel_rfl) (congrArg Value.bool c5) (y_move rfl) ?_
     rcases bif_some hs with ⟨d8, hs⟩ | ⟨d8, hs⟩
     ·skip
      refine pl_not (tg := 91) (by kernel_rfl) (congrArg Value.bool d8) ?_
      refine pl_not (tg := 91) (by kernel_rfl) (congrArg Value.bool d8) ?_
      refine pl_not (tg := 91) (by kernel_rfl) (congrArg Value.bool d8) ?_
      refine pl_not (tg := 91) (by kernel_rfl) (congrArg Value.bool d8) ?_
      refine pl_yes (.bool true) (tg := 86) (by kernel_rfl) (congrArg Value.bool c5) (y_pick_t (congrArg Value.bool d8) rfl) ?_
      refine pl_val (.bool true) (y_pick_t (congrArg Value.bool c5) rfl) ?_
      refine c_nil ?_
      refine c_condT (by rfl) ?_
      refine c_sr ?_
      refine pl_val (.bool false) (y_assign rfl) ?_
      refine pl_val (.bool true) (y_assign rfl) ?_
      refine c_nil ?_
      refine wp_ret ?_
      cases hs
      exact ⟨_, fr_ovl 100 ⟨rfl, rfl, trivial⟩, hC⟩
     refine pl_yes (.pointer (some ⟨a0, 0, none⟩)) (tg := 91) (by kernel_rfl) (congrArg Value.bool d8) (y_move rfl) ?_
     refine pl_yes (.int .i64 x77) (tg := 91) (by kernel_rfl) (congrArg Value.bool d8) (y_move rfl) ?_
     refine pl_yes (.int .i64 k95) (tg := 91) (by kernel_rfl) (congrArg Value.bool d8) (y_move rfl) ?_
     have hO := hO.fr4
     have hO := hO.fr4
     have hO := hO.fr4
     have hO := hO.fr4
     have hO := hO.fr4
     obtain ⟨r109, p3, hs⟩ := bind_some hs
     refine pl_cally (tg := 91) (by kernel_rfl) (congrArg Value.bool d8) Bd62 rfl (c_impl_chainer__step (M := (Less (Less (Less (Less (Less (PastL M [] a2 a1 (a3 ++ ([]))) ([a0])) b3) b7) b8) b9)) 1 x77 k95 (p25.1, p25.2.1, p25.2.2.1, p25.2.2.2.1, p25.2.2.2.2.1, p25.2.2.2.2.2.1, p25.2.2.2.2.2.2) (show RBox (Less (Less (Less (Less (Less (PastL M [] a2 a1 (a3 ++ ([]))) ([a0])) b3) b7) b8) b9) _ a0 58 [(.int .i64 p25.1), (.slice b4 b5 b6), (.slice c0 c1 c2), (.slice c6 c7 c8), (.slice c9 d0 d1), (.int .i64 p25.2.2.2.2.2.1), (.int .i64 p25.2.2.2.2.2.2)] from ⟨a4, fun h => by simp [Less] at h⟩) ((((((Frz.os (Frz.rs Frz.int))).val (a5.sub Less.sub) Less.sub Less.not).sub Less.sub).sub Less.sub).sub Less.sub) (((((Frz.os Frz.bool)).val ((a6.sub Less.sub).sub Less.sub) Less.sub Less.not).sub Less.sub).sub Less.sub) ((((Frz.os (Frz.os Frz.int))).val (((a7.sub Less.sub).sub Less.sub).sub Less.sub) Less.sub Less.not).sub Less.sub) (((Frz.os (Frz.os Frz.int))).val ((((a8.sub Less.sub).sub Less.sub).sub Less.sub).sub Less.sub) Less.sub Less.not) ((((hO.less).less).less).less).less.fut p3) ?_
     rintro _ v9 ⟨rfl, e4⟩
     have hO := hO.fr4
     have hO := hO.fr4
     have hO := hO.fr4
     have hO := hO.fr4
     have hO := hO.fr4
     have hO := hO.perm (R := [] ++ (([a0]) ++ (b3 ++ (b7 ++ (b8 ++ (b9 ++ (d3 ++ ([])))))))) (by simp)
     have h1 := h1.ext e4
     have a5 := a5.ext e4
     have a6 := a6.ext e4
     have a7 := a7.ext e4
     have a8 := a8.ext e4
     have a4 := a4.cn e4
     have a9 := a9.ext e4
     have hC := hC.ext e4
     have hO := hO.ext e4
     have hO := hO.perm (R := ([a0]) ++ (b3 ++ (b7 ++ (b8 ++ (b9 ++ (d3 ++ ([]))))))) (by simp)
     refine pl_yes (.bool r109) (tg := 86) (by kernel_rfl) (congrArg Value.bool c5) (y_pick_f (congrArg Value.bool d8) rfl) ?_
     refine pl_val (.bool r109) (y_pick_t (congrArg Value.bool c5) rfl) ?_
     refine c_nil ?_
     rcases bif_some hs with ⟨g2, hs⟩ | ⟨g2, hs⟩
     ·refine c_condT (congrArg Value.bool g2) ?_
      refine c_sr ?_
      refine pl_val (.bool false) (y_assign rfl) ?_
      refine pl_val (.bool true) (y_assign rfl) ?_
      refine c_nil ?_
      refine wp_ret ?_
      cases hs
      exact ⟨_, fr_ovl 100 ⟨rfl, rfl, trivial⟩, hC⟩
     refine c_condF (congrArg Value.bool g2) ?_
     refine wp_skip ?_
     refine c_region ?_
     refine pl_val (.int .i64 (w64 (k95 + 1))) (y_add rfl rfl) ?_
     refine pl_val (.int .i64 (w64 (k95 + 1))) (y_move rfl) ?_
     refine c_nil ?_
     cases hs
     have hO := hO.fr4
     have hO := hO.fr4
     have hO := hO.fr4
     have hO := hO.fr4
     have hO := hO.fr4
     have hO := hO.fr5
     exact ⟨_, fr_ovl 100 ⟨rfl, rfl, rfl, rfl, rfl, rfl, rfl, congrArg (Value.int .i64) hw, trivial⟩, hC, hO, h1, a5, a6, a7, a8, a4, a9⟩
    refine pl_not (tg := 86) (by kernel_rfl) (congrArg Value.bool c5) ?_
    refine pl_not (tg := 86) (by kernel_rfl) (congrArg Value.bool c5) ?_
    refine pl_not (tg := 86) (by kernel_rfl) (congrArg Value.bool c5) ?_
    refine pl_not (tg := 86) (by kernel_rfl) (congrArg Value.bool c5) ?_
    refine pl_not (tg := 86) (by kernel_rfl) (congrArg Value.bool c5) ?_
    refine pl_nou (tg := 91) (by kernel_rfl) rfl ?_
    refine pl_nou (tg := 91) (by kernel_rfl) rfl ?_
    refine pl_nou (tg := 91) (by kernel_rfl) rfl ?_
    refine pl_nou (tg := 91) (by kernel_rfl) rfl ?_
    refine pl_not (tg := 86) (by kernel_rfl) (congrArg Value.bool c5) ?_
    refine pl_val (.bool false) (y_pick_f (congrArg Value.bool c5) rfl) ?_
    refine c_nil ?_
    refine c_condF (by rfl) ?_
    refine wp_skip ?_
    refine c_region ?_
    refine pl_val (.int .i64 (w64 (k95 + 1))) (y_add rfl rfl) ?_
    refine pl_val (.int .i64 (w64 (k95 + 1))) (y_move rfl) ?_
    refine c_nil ?_
    cases hs
    have hO := hO.fr5
    have hO := hO.fr5
    have hO := hO.fr5
    have hO := hO.fr5
    have hO := hO.fr5
    have hO := hO.fr5
    exact ⟨_, fr_ovl 100 ⟨rfl, rfl, rfl, rfl, rfl, rfl, rfl, congrArg (Value.int .i64) hw, trivial⟩, hC, hO, h1, a5, a6, a7, a8, a4, a9⟩
   refine pl_not (tg := 77) (by kernel_rfl) (congrArg Value.bool c4) ?_
   refine pl_not (tg := 77) (by kernel_rfl) (congrArg Value.bool c4) ?_
   refine pl_not (tg := 77) (by kernel_rfl) (congrArg Value.bool c4) ?_
   refine pl_not (tg := 77) (by kernel_rfl) (congrArg Value.bool c4) ?_
   refine pl_not (tg := 77) (by kernel_rfl) (congrArg Value.bool c4) ?_
   refine pl_not (tg := 77) (by kernel_rfl) (congrArg Value.bool c4) ?_
   refine pl_not (tg := 77) (by kernel_rfl) (congrArg Value.bool c4) ?_
   refine pl_val (.bool false) (y_pick_f (congrArg Value.bool c4) rfl) ?_
   refine pl_val (.bool false) (y_move rfl) ?_
   refine pl_not (tg := 86) (by kernel_rfl) (by rfl) ?_
   refine pl_not (tg := 86) (by kernel_rfl) (by rfl) ?_
   refine pl_not (tg := 86) (by kernel_rfl) (by rfl) ?_
   refine pl_not (tg := 86) (by kernel_rfl) (by rfl) ?_
   refine pl_not (tg := 86) (by kernel_rfl) (by rfl) ?_
   refine pl_nou (tg := 91) (by kernel_rfl) rfl ?_
   refine pl_nou (tg := 91) (by kernel_rfl) rfl ?_
   refine pl_nou (tg := 91) (by kernel_rfl) rfl ?_
   refine pl_nou (tg := 91) (by kernel_rfl) rfl ?_
   refine pl_not (tg := 86) (by kernel_rfl) (by rfl) ?_
   refine pl_val (.bool false) (y_pick_f (by rfl) rfl) ?_
   refine c_nil ?_
   refine c_condF (by rfl) ?_
   refine wp_skip ?_
   refine c_region ?_
   refine pl_val (.int .i64 (w64 (k95 + 1))) (y_add rfl rfl) ?_
   refine pl_val (.int .i64 (w64 (k95 + 1))) (y_move rfl) ?_
   refine c_nil ?_
   cases hs
   have hO := hO.fr5
   have hO := hO.fr5
   have hO := hO.fr5
   have hO := hO.fr5
   have hO := hO.fr5
   have hO := hO.fr5
   exact ⟨_, fr_ovl 100 ⟨rfl, rfl, rfl, rfl, rfl, rfl, rfl, congrArg (Value.int .i64) hw, trivial⟩, hC, hO, h1, a5, a6, a7, a8, a4, a9⟩
  ·skip
   have hO := hO.fr5
   have hO := hO.fr5
   have hO := hO.fr5
   have hO := hO.fr5
   have hO := hO.fr5
   have hO := hO.fr5
   exact ⟨_, fr_ovl 100 ⟨rfl, rfl, rfl, rfl, rfl, rfl, rfl, rfl, trivial⟩, hC, hO, h1, a5, a6, a7, a8, a4, a9⟩
  cases o97 with
  | nx _ => exact True.intro
  | rt r_ =>
   have hs := after_rt hs
   intro f1 g3 hK
   cases hs
   exact hK
  | br s93 =>
   have hs := after_br hs
   rintro f1 b1 ⟨σ, rfl, hC, hO, h1, a5, a6, a7, a8, a4, a9⟩
   refine c_region ?_
   refine pl_val (.int .i64 (w64 ((d7 : Int) + 1))) (y_add rfl rfl) ?_
   refine pl_val (.int .i64 (w64 ((d7 : Int) + 1))) (y_move rfl) ?_
   refine c_nil ?_
   cases hs
   have hO := hO.fr5
   have hO := hO.fr5
   have hO := hO.fr5
   have hO := hO.fr5
   have hO := hO.fr5
   have hO := hO.fr5
   exact ⟨_, rfl, drop_cons_next hd, _, fr_ovl 100 ⟨rfl, rfl, rfl, rfl, congrArg (Value.int .i64) (w64_succ hlt (Int.natCast_nonneg _) (rs_max h1)), trivial⟩, hC, hO, h1, a5, a6, a7, a8, a4, a9⟩
 ·skip
  have hO := hO.fr5
  have hO := hO.fr5
  have hO := hO.fr5
  have hO := hO.fr5
  have hO := hO.fr5
  have hO := hO.fr5
  exact ⟨0, rfl, rfl, _, fr_ovl 100 ⟨rfl, rfl, rfl, rfl, rfl, trivial⟩, hC, hO, h1, a5, a6, a7, a8, a4, a9⟩
 cases o78 with
 | nx _ => exact True.intro
 | rt r_ =>
  have hs := after_rt hs
  intro f1 g3 hK
  cases hs
  exact hK
 | br s74 =>
  have hs := after_br hs
  rintro f1 b0 ⟨σ, rfl, hC, hO, h1, a5, a6, a7, a8, a4, a9⟩
  refine c_sr ?_
  refine pl_val (.bool true) (y_assign rfl) ?_
  refine pl_val (.bool true) (y_assign rfl) ?_
  refine c_nil ?_
  refine wp_ret ?_
  cases hs
  exact ⟨_, fr_ovl 100 ⟨rfl, rfl, trivial⟩, hC⟩

def k_laws_eqIntS (M : Nat → Prop) (w0 : World) (r : Bool) (a : Act) (w : World) : Prop :=
  ∃ (σ : Nat → Value) , a = fr 26 (ovl σ [(4, (.bool r))]) ∧ Chg [] w0 w
def s_laws_eqIntS (a_ : List Int) (b : List Int) : Option (Bool) :=
  (bif ((a_.length : Int) != (b.length : Int)) then some false else (forC (S := Unit) (R := Bool) (fun k12 s10 =>
  (idx a_ k12).bind fun x17 =>
  (idx b k12).bind fun x19 =>
  (bif (x17 != x19) then some (.rt false) else some (.nx ()))) 0 (a_.length : Int) ()).bind fun o14 => after o14 (fun r_ => some r_) (fun s10 =>
  some true))
set_option maxHeartbeats 4000000 in
theorem c_laws_eqIntS {M : Nat → Prop} {w : World} {pa0 : Option Addr} {pn0 pc0 : Nat} {pa1 : Option Addr} {pn1 pc1 : Nat} (a_ : List Int) (b : List Int) (h0 : (RT.rs (RT.int .i64)).val M w (.slice pa0 pn0 pc0) a_ ([])) (h1 : (RT.rs (RT.int .i64)).val M w (.slice pa1 pn1 pc1) b ([])) (hM : ∀ g, w.heap.size ≤ g → M g) {r : Bool} (hs : s_laws_eqIntS a_ b = some r) :
    Gives Try.prog 27 [(.slice pa0 pn0 pc0), (.slice pa1 pn1 pc1)] w (fun v w' => v = (.bool r) ∧ Chg [] w w') := by
 refine calls_fr Try.func27 rfl Try.ntmps27 (Nat.le_of_ble_eq_true rfl) ?_
 have hO := Own.start (N := Nw w []) hM Nw.fut
 have hC := Chg.refl [] w
 unfold s_laws_eqIntS at hs
 refine wp_mono (Q := KPost (k_laws_eqIntS M w r)) ?_ (fun e a a4 h => ?_)
 rotate_left
 ·cases e
  case ret =>
   obtain ⟨σ, rfl, hrest⟩ := h
   exact ret1x Try.results27 (res_tmp rfl) ⟨rfl, hrest⟩
  all_goals exact (h : False).elim
 refine c_sr ?_
 refine pl_val (.bool false) (y_assign rfl) ?_
 refine c_nil ?_
 refine c_seq ?_
 refine c_sr ?_
 refine pl_val (.slice pa0 pn0 pc0) (y_move rfl) ?_
 refine pl_val (.int .i64 (a_.length : Int)) (y_len' Sl37 (rs_len h0) rfl) ?_
 refine pl_val (.slice pa1 pn1 pc1) (y_move rfl) ?_
 refine pl_val (.int .i64 (b.length : Int)) (y_len' Sl37 (rs_len h1) rfl) ?_
 refine pl_val (.bool ((a_.length : Int) != (b.length : Int))) (y_neq rfl rfl) ?_
 refine c_nil ?_
 rcases bif_some hs with ⟨a2, hs⟩ | ⟨a2, hs⟩
 ·refine c_condT (congrArg Value.bool a2) ?_
  refine c_sr ?_
  refine pl_val (.bool false) (y_assign rfl) ?_
  refine c_nil ?_
  refine wp_ret ?_
  cases hs
  exact ⟨_, fr_ovl 26 ⟨rfl, trivial⟩, hC⟩
 refine c_condF (congrArg Value.bool a2) ?_
 refine wp_skip ?_
 refine c_seq ?_
 refine c_sr ?_
 refine pl_val (.int .i64 0) (y_assign rfl) ?_
 refine c_nil ?_
 obtain ⟨o14, a5, hs⟩ := bind_some hs
 refine wp_block ?_
 refine wp_forC (id := 0) (a_.length : Int) (I := fun k12 s10 a a0 => ∃ (σ : Nat → Value), a = fr 26 (ovl σ [(0, (.slice pa0 pn0 pc0)), (1, (.slice pa1 pn1 pc1)), (5, (.int .i64 k12))]) ∧ Chg [] w a0 ∧ Own (Nw w []) M a0 ([]) ∧ (RT.rs (RT.int .i64)).val M a0 (.slice pa0 pn0 pc0) a_ ([]) ∧ (RT.rs (RT.int .i64)).val M a0 (.slice pa1 pn1 pc1) b ([])) (J := fun s10 a a0 => ∃ (σ : Nat → Value), a = fr 26 (ovl σ []) ∧ Chg [] w a0 ∧ Own (Nw w []) M a0 ([]) ∧ (RT.rs (RT.int .i64)).val M a0 (.slice pa0 pn0 pc0) a_ ([]) ∧ (RT.rs (RT.int .i64)).val M a0 (.slice pa1 pn1 pc1) b ([])) (K := (k_laws_eqIntS M w)) ?_ ?_ 0 () o14 _ _ ?_ a5 ?_
 ·rintro k12 s10 a a0 ⟨σ, rfl, hC, hO, h0, h1⟩ hlt
  refine c_seq ?_
  refine c_sr ?_
  refine pl_val (.int .i64 k12) (y_move rfl) ?_
  refine pl_val (.slice pa0 pn0 pc0) (y_move rfl) ?_
  refine pl_val (.int .i64 (a_.length : Int)) (y_len' Sl37 (rs_len h0) rfl) ?_
  refine pl_val (.bool (decide (k12 < (a_.length : Int)))) (y_lss rfl rfl) ?_
  refine c_nil ?_
  refine c_condF (congrArg Value.bool (decide_eq_false hlt)) ?_
  refine wp_exit ?_
  exact ⟨rfl, _, fr_ovl 26 trivial, hC, hO, h0, h1⟩
 ·rintro k12 s10 o14 a a0 ⟨σ, rfl, hC, hO, h0, h1⟩ hlt hw hs
  refine c_seq ?_
  refine c_sr ?_
  refine pl_val (.int .i64 k12) (y_move rfl) ?_
  refine pl_val (.slice pa0 pn0 pc0) (y_move rfl) ?_
  refine pl_val (.int .i64 (a_.length : Int)) (y_len' Sl37 (rs_len h0) rfl) ?_
  refine pl_val (.bool (decide (k12 < (a_.length : Int)))) (y_lss rfl rfl) ?_
  refine c_nil ?_
  refine c_condT (congrArg Value.bool (decide_eq_true hlt)) ?_
  refine wp_skip ?_
  refine c_seq ?_
  refine wp_block ?_
  refine c_seq ?_
  refine x_start [] Mx rfl ?_
  have a1 := Chg.drew a0
  generalize World.drew a0 = a6 at a1 ⊢
  have h0 := h0.ext a1
  have h1 := h1.ext a1
  have hC := hC.ext a1
  have hO := hO.ext a1
  have hS := Chg.refl [] a6
  refine x_p 0 (.slice pa0 pn0 pc0) rfl (by kernel_rfl)  (fun _ => y_move rfl) (fun _ => hS) ?_
  refine x_p 1 (.int .i64 k12) rfl (by kernel_rfl)  (fun _ => y_move rfl) (fun _ => hS) ?_
  obtain ⟨x17, a7, hs⟩ := bind_some hs
  obtain ⟨a8, a9, b0, b1⟩ := rs_idx Sl37 Sz3 h0 a7
  refine x_p 2 (.pointer (some ⟨a8, a9, none⟩)) rfl (by kernel_rfl)  (fun _ => b0 _ _ _ _ _ _ _ _ _ rfl rfl) (fun _ => hS) ?_
  refine x_l 3 (.int .i64 x17) rfl (by kernel_rfl)  (fun w' hw' => y_load rfl ((at_load_int Ag3 Sz3 b1) w' hw')) hS ?_
  refine x_p 4 (.slice pa1 pn1 pc1) rfl (by kernel_rfl)  (fun _ => y_move rfl) (fun _ => hS) ?_
  refine x_p 5 (.int .i64 k12) rfl (by kernel_rfl)  (fun _ => y_move rfl) (fun _ => hS) ?_
  obtain ⟨x19, b2, hs⟩ := bind_some hs
  obtain ⟨b3, b4, b5, b6⟩ := rs_idx Sl37 Sz3 h1 b2
  refine x_p 6 (.pointer (some ⟨b3, b4, none⟩)) rfl (by kernel_rfl)  (fun _ => b5 _ _ _ _ _ _ _ _ _ rfl rfl) (fun _ => hS) ?_
  refine x_l 7 (.int .i64 x19) rfl (by kernel_rfl)  (fun w' hw' => y_load rfl ((at_load_int Ag3 Sz3 b6) w' hw')) hS ?_
  refine x_p 8 (.bool (x17 != x19)) rfl (by kernel_rfl)  (fun _ => y_neq rfl rfl) (fun _ => hS) ?_
  refine x_end (by kernel_rfl) ?_
  clear hS
  rcases bif_some hs with ⟨a3, hs⟩ | ⟨a3, hs⟩
  ·refine c_condT (congrArg Value.bool a3) ?_
   refine c_sr ?_
   refine pl_val (.bool false) (y_assign rfl) ?_
   refine c_nil ?_
   refine wp_ret ?_
   cases hs
   exact ⟨_, fr_ovl 26 ⟨rfl, trivial⟩, hC⟩
  refine c_condF (congrArg Value.bool a3) ?_
  refine wp_skip ?_
  refine c_region ?_
  refine pl_val (.int .i64 k12) (y_move rfl) ?_
  refine pl_val (.int .i64 (w64 (k12 + 1))) (y_add rfl rfl) ?_
  refine pl_val (.int .i64 (w64 (k12 + 1))) (y_assign rfl) ?_
  refine c_nil ?_
  cases hs
  exact ⟨_, fr_ovl 26 ⟨rfl, rfl, congrArg (Value.int .i64) hw, trivial⟩, hC, hO, h0, h1⟩
 ·skip
  exact ⟨_, fr_ovl 26 ⟨rfl, rfl, rfl, trivial⟩, hC, hO, h0, h1⟩
 cases o14 with
 | nx _ => exact True.intro
 | rt r_ =>
  have hs := after_rt hs
  intro b7 a4 hK
  cases hs
  exact hK
 | br s10 =>
  have hs := after_br hs
  rintro b7 a0 ⟨σ, rfl, hC, hO, h0, h1⟩
  refine c_sr ?_
  refine pl_val (.bool true) (y_assign rfl) ?_
  refine c_nil ?_
  refine wp_ret ?_
  cases hs
  exact ⟨_, fr_ovl 26 ⟨rfl, trivial⟩, hC⟩

theorem Bd27 : Bodied Try.prog 27 := bodied Try.func27 (by kernel_rfl) rfl

def k_laws_eqOp (M : Nat → Prop) (w0 : World) (r : Bool) (a : Act) (w : World) : Prop :=
  ∃ (σ : Nat → Value) , a = fr 16 (ovl σ [(4, (.bool r))]) ∧ Chg [] w0 w
def s_laws_eqOp (a_ : Int × (List Int)) (b : Int × (List Int)) : Option (Bool) :=
  (bif (a_.1 != b.1) then some false else (s_laws_eqIntS a_.2 b.2).bind fun r7 =>
  (bif (!r7) then some false else some true))
set_option maxHeartbeats 4000000 in
theorem c_laws_eqOp {M : Nat → Prop} {w : World} {pa0 : Option Addr} {pn0 pc0 : Nat} {pa1 : Option Addr} {pn1 pc1 : Nat} (a_ : Int × (List Int)) (b : Int × (List Int)) (h0 : (RT.rs (RT.int .i64)).val M w (.slice pa0 pn0 pc0) a_.2 ([])) (h1 : (RT.rs (RT.int .i64)).val M w (.slice pa1 pn1 pc1) b.2 ([])) (hM : ∀ g, w.heap.size ≤ g → M g) {r : Bool} (hs : s_laws_eqOp a_ b = some r) :
    Gives Try.prog 47 [(.agg #[(.int .i64 a_.1), (.slice pa0 pn0 pc0)]), (.agg #[(.int .i64 b.1), (.slice pa1 pn1 pc1)])] w (fun v w' => v = (.bool r) ∧ Chg [] w w') := by
 refine calls_fr Try.func47 rfl Try.ntmps47 (Nat.le_of_ble_eq_true rfl) ?_
 have hO := Own.start (N := Nw w []) hM Nw.fut
 have hC := Chg.refl [] w
 unfold s_laws_eqOp at hs
 refine wp_mono (Q := KPost (k_laws_eqOp M w r)) ?_ (fun e a b6 h => ?_)
 rotate_left
 ·cases e
  case ret =>
   obtain ⟨σ, rfl, hrest⟩ := h
   exact ret1x Try.results47 (res_tmp rfl) ⟨rfl, hrest⟩
  all_goals exact (h : False).elim
 refine c_sr ?_
 obtain ⟨a9, a5, b2, b0, a4, a0⟩ := new_block w [(.int .i64 a_.1), (.slice pa0 pn0 pc0)] 64
 refine pl_val (w' := a9) (.pointer (some ⟨a5, 0, none⟩)) (y_box rfl (by rw [b2, b0]; kernel_rfl)) ?_
 have h0 := h0.ext a4
 have h1 := h1.ext a4
 have hC := hC.ext a4
 have hO := hO.new1 a4 b0 a0.lt
 obtain ⟨b3, a6, b4, b1, a2, a3⟩ := new_block a9 [(.int .i64 b.1), (.slice pa1 pn1 pc1)] 64
 refine pl_val (w' := b3) (.pointer (some ⟨a6, 0, none⟩)) (y_box rfl (by rw [b4, b1]; kernel_rfl)) ?_
 have h0 := h0.ext a2
 have h1 := h1.ext a2
 have a0 := a0.cn a2
 have hC := hC.ext a2
 have hO := hO.new1 a2 b1 a3.lt
 refine pl_val (.bool false) (y_assign rfl) ?_
 refine c_nil ?_
 refine c_seq ?_
 refine c_sr ?_
 refine pl_val (.pointer (some ⟨a5, 0, none⟩)) (y_faddr rfl Fa64x0) ?_
 refine pl_val (.int .i64 a_.1) (y_load rfl ((box_load Ag3 Sz3 a0 [] [(.int .i64 a_.1)] [(.slice pa0 pn0 pc0)] rfl rfl (fun _ => rfl)) _ (Chg.refl _ _))) ?_
 refine pl_val (.pointer (some ⟨a6, 0, none⟩)) (y_faddr rfl Fa64x0) ?_
 refine pl_val (.int .i64 b.1) (y_load rfl ((box_load Ag3 Sz3 a3 [] [(.int .i64 b.1)] [(.slice pa1 pn1 pc1)] rfl rfl (fun _ => rfl)) _ (Chg.refl _ _))) ?_
 refine pl_val (.bool (a_.1 != b.1)) (y_neq rfl rfl) ?_
 refine c_nil ?_
 rcases bif_some hs with ⟨a7, hs⟩ | ⟨a7, hs⟩
 ·refine c_condT (congrArg Value.bool a7) ?_
  refine c_sr ?_
  refine pl_val (.bool false) (y_assign rfl) ?_
  refine c_nil ?_
  refine wp_ret ?_
  cases hs
  exact ⟨_, fr_ovl 16 ⟨rfl, trivial⟩, hC⟩
 refine c_condF (congrArg Value.bool a7) ?_
 refine wp_skip ?_
 refine c_seq ?_
 refine c_sr ?_
 refine pl_val (.pointer (some ⟨a5, 1, none⟩)) (y_faddr rfl Fa64x1) ?_
 refine pl_val (.slice pa0 pn0 pc0) (y_load rfl ((box_load Ag37 Sz37 a0 [(.int .i64 a_.1)] [(.slice pa0 pn0 pc0)] [] rfl rfl (fun _ => rfl)) _ (Chg.refl _ _))) ?_
 refine pl_val (.pointer (some ⟨a6, 1, none⟩)) (y_faddr rfl Fa64x1) ?_
 refine pl_val (.slice pa1 pn1 pc1) (y_load rfl ((box_load Ag37 Sz37 a3 [(.int .i64 b.1)] [(.slice pa1 pn1 pc1)] [] rfl rfl (fun _ => rfl)) _ (Chg.refl _ _))) ?_
 obtain ⟨r7, b5, hs⟩ := bind_some hs
 refine pl_call Bd27 rfl (c_laws_eqIntS (M := M) a_.2 b.2 h0 h1 hO.fut b5) ?_
 rintro _ b7 ⟨rfl, a1⟩
 have h0 := h0.ext a1
 have h1 := h1.ext a1
 have a0 := a0.cn a1
 have a3 := a3.cn a1
 have hC := hC.ext a1
 have hO := hO.ext a1
 refine pl_val (.bool (!r7)) (y_not rfl) ?_
 refine c_nil ?_
 have hO := hO.drop
 have hO := hO.drop
 rcases bif_some hs with ⟨a8, hs⟩ | ⟨a8, hs⟩
 ·refine c_condT (congrArg Value.bool a8) ?_
  refine c_sr ?_
  refine pl_val (.bool false) (y_assign rfl) ?_
  refine c_nil ?_
  refine wp_ret ?_
  cases hs
  exact ⟨_, fr_ovl 16 ⟨rfl, trivial⟩, hC⟩
 refine c_condF (congrArg Value.bool a8) ?_
 refine wp_skip ?_
 refine c_sr ?_
 refine pl_val (.bool true) (y_assign rfl) ?_
 refine c_nil ?_
 refine wp_ret ?_
 cases hs
 exact ⟨_, fr_ovl 16 ⟨rfl, trivial⟩, hC⟩

theorem Bd47 : Bodied Try.prog 47 := bodied Try.func47 (by kernel_rfl) rfl

def k_laws_eqOpS (M : Nat → Prop) (w0 : World) (r : Bool) (a : Act) (w : World) : Prop :=
  ∃ (σ : Nat → Value) , a = fr 27 (ovl σ [(4, (.bool r))]) ∧ Chg [] w0 w
def s_laws_eqOpS (a_ : List (Int × (List Int))) (b : List (Int × (List Int))) : Option (Bool) :=
  (bif ((a_.length : Int) != (b.length : Int)) then some false else (forC (S := Unit) (R := Bool) (fun k18 s16 =>
  (idx a_ k18).bind fun x23 =>
  (idx b k18).bind fun x27 =>
  (s_laws_eqOp (x23.1, x23.2) (x27.1, x27.2)).bind fun r32 =>
  (bif (!r32) then some (.rt false) else some (.nx ()))) 0 (a_.length : Int) ()).bind fun o20 => after o20 (fun r_ => some r_) (fun s16 =>
  some true))
set_option maxHeartbeats 4000000 in
theorem c_laws_eqOpS {M : Nat → Prop} {w : World} {pa0 : Option Addr} {pn0 pc0 : Nat} {pa1 : Option Addr} {pn1 pc1 : Nat} (a_ : List (Int × (List Int))) (b : List (Int × (List Int))) (h0 : (RT.rs (RT.pr (RT.int .i64) (RT.rs (RT.int .i64)))).val M w (.slice pa0 pn0 pc0) a_ ([])) (h1 : (RT.rs (RT.pr (RT.int .i64) (RT.rs (RT.int .i64)))).val M w (.slice pa1 pn1 pc1) b ([])) (hM : ∀ g, w.heap.size ≤ g → M g) {r : Bool} (hs : s_laws_eqOpS a_ b = some r) :
    Gives Try.prog 15 [(.slice pa0 pn0 pc0), (.slice pa1 pn1 pc1)] w (fun v w' => v = (.bool r) ∧ Chg [] w w') := by
 refine calls_fr Try.func15 rfl Try.ntmps15 (Nat.le_of_ble_eq_true rfl) ?_
 have hO := Own.start (N := Nw w []) hM Nw.fut
 have hC := Chg.refl [] w
 unfold s_laws_eqOpS at hs
 refine wp_mono (Q := KPost (k_laws_eqOpS M w r)) ?_ (fun e a a9 h => ?_)
 rotate_left
 ·cases e
  case ret =>
   obtain ⟨σ, rfl, hrest⟩ := h
   exact ret1x Try.results15 (res_tmp rfl) ⟨rfl, hrest⟩
  all_goals exact (h : False).elim
 refine c_sr ?_
 refine pl_val (.bool false) (y_assign rfl) ?_
 refine c_nil ?_
 refine c_seq ?_
 refine c_sr ?_
 refine pl_val (.slice pa0 pn0 pc0) (y_move rfl) ?_
 refine pl_val (.int .i64 (a_.length : Int)) (y_len' Sl26 (rs_len h0) rfl) ?_
 refine pl_val (.slice pa1 pn1 pc1) (y_move rfl) ?_
 refine pl_val (.int .i64 (b.length : Int)) (y_len' Sl26 (rs_len h1) rfl) ?_
 refine pl_val (.bool ((a_.length : Int) != (b.length : Int))) (y_neq rfl rfl) ?_
 refine c_nil ?_
 rcases bif_some hs with ⟨a3, hs⟩ | ⟨a3, hs⟩
 ·refine c_condT (congrArg Value.bool a3) ?_
  refine c_sr ?_
  refine pl_val (.bool false) (y_assign rfl) ?_
  refine c_nil ?_
  refine wp_ret ?_
  cases hs
  exact ⟨_, fr_ovl 27 ⟨rfl, trivial⟩, hC⟩
 refine c_condF (congrArg Value.bool a3) ?_
 refine wp_skip ?_
 refine c_seq ?_
 refine c_sr ?_
 refine pl_val (.int .i64 0) (y_assign rfl) ?_
 refine c_nil ?_
 obtain ⟨o20, b0, hs⟩ := bind_some hs
 refine wp_block ?_
 refine wp_forC (id := 0) (a_.length : Int) (I := fun k18 s16 a a0 => ∃ (σ : Nat → Value), a = fr 27 (ovl σ [(0, (.slice pa0 pn0 pc0)), (1, (.slice pa1 pn1 pc1)), (5, (.int .i64 k18))]) ∧ Chg [] w a0 ∧ Own (Nw w []) M a0 ([]) ∧ (RT.rs (RT.pr (RT.int .i64) (RT.rs (RT.int .i64)))).val M a0 (.slice pa0 pn0 pc0) a_ ([]) ∧ (RT.rs (RT.pr (RT.int .i64) (RT.rs (RT.int .i64)))).val M a0 (.slice pa1 pn1 pc1) b ([])) (J := fun s16 a a0 => ∃ (σ : Nat → Value), a = fr 27 (ovl σ []) ∧ Chg [] w a0 ∧ Own (Nw w []) M a0 ([]) ∧ (RT.rs (RT.pr (RT.int .i64) (RT.rs (RT.int .i64)))).val M a0 (.slice pa0 pn0 pc0) a_ ([]) ∧ (RT.rs (RT.pr (RT.int .i64) (RT.rs (RT.int .i64)))).val M a0 (.slice pa1 pn1 pc1) b ([])) (K := (k_laws_eqOpS M w)) ?_ ?_ 0 () o20 _ _ ?_ b0 ?_
 ·rintro k18 s16 a a0 ⟨σ, rfl, hC, hO, h0, h1⟩ hlt
  refine c_seq ?_
  refine c_sr ?_
  refine pl_val (.int .i64 k18) (y_move rfl) ?_
  refine pl_val (.slice pa0 pn0 pc0) (y_move rfl) ?_
  refine pl_val (.int .i64 (a_.length : Int)) (y_len' Sl26 (rs_len h0) rfl) ?_
  refine pl_val (.bool (decide (k18 < (a_.length : Int)))) (y_lss rfl rfl) ?_
  refine c_nil ?_
  refine c_condF (congrArg Value.bool (decide_eq_false hlt)) ?_
  refine wp_exit ?_
  exact ⟨rfl, _, fr_ovl 27 trivial, hC, hO, h0, h1⟩
 ·rintro k18 s16 o20 a a0 ⟨σ, rfl, hC, hO, h0, h1⟩ hlt hw hs
  refine c_seq ?_
  refine c_sr ?_
  refine pl_val (.int .i64 k18) (y_move rfl) ?_
  refine pl_val (.slice pa0 pn0 pc0) (y_move rfl) ?_
  refine pl_val (.int .i64 (a_.length : Int)) (y_len' Sl26 (rs_len h0) rfl) ?_
  refine pl_val (.bool (decide (k18 < (a_.length : Int)))) (y_lss rfl rfl) ?_
  refine c_nil ?_
  refine c_condT (congrArg Value.bool (decide_eq_true hlt)) ?_
  refine wp_skip ?_
  refine c_seq ?_
  refine wp_block ?_
  refine c_seq ?_
  refine x_start [] Mx rfl ?_
  have a2 := Chg.drew a0
  generalize World.drew a0 = b1 at a2 ⊢
  have h0 := h0.ext a2
  have h1 := h1.ext a2
  have hC := hC.ext a2
  have hO := hO.ext a2
  have hS := Chg.refl [] b1
  refine x_p 0 (.slice pa0 pn0 pc0) rfl (by kernel_rfl)  (fun _ => y_move rfl) (fun _ => hS) ?_
  refine x_p 1 (.int .i64 k18) rfl (by kernel_rfl)  (fun _ => y_move rfl) (fun _ => hS) ?_
  obtain ⟨x23, b2, hs⟩ := bind_some hs
  obtain ⟨b3, b4, b5, a4⟩ := rs_idx Sl26 Sz64 h0 b2
  refine x_p 2 (.pointer (some ⟨b3, b4, none⟩)) rfl (by kernel_rfl)  (fun _ => b5 _ _ _ _ _ _ _ _ _ rfl rfl) (fun _ => hS) ?_
  obtain ⟨d8, b6, b7⟩ := at_load Ag64 Sz64 (by intro h; cases h) a4
  obtain ⟨d9, rfl, b8⟩ := b7
  obtain ⟨e0, e1, rfl, b9, c0⟩ := pr_open b8
  obtain rfl := int_rel b9
  obtain ⟨c1, c2, c3, rfl, a5⟩ := rs_rel c0
  refine x_l 3 (.agg #[(.int .i64 x23.1), (.slice c1 c2 c3)]) rfl (by kernel_rfl)  (fun w' hw' => y_load rfl (b6 w' hw')) hS ?_
  refine x_p 4 (.slice pa1 pn1 pc1) rfl (by kernel_rfl)  (fun _ => y_move rfl) (fun _ => hS) ?_
  refine x_p 5 (.int .i64 k18) rfl (by kernel_rfl)  (fun _ => y_move rfl) (fun _ => hS) ?_
  obtain ⟨x27, c4, hs⟩ := bind_some hs
  obtain ⟨c5, c6, c7, a6⟩ := rs_idx Sl26 Sz64 h1 c4
  refine x_p 6 (.pointer (some ⟨c5, c6, none⟩)) rfl (by kernel_rfl)  (fun _ => c7 _ _ _ _ _ _ _ _ _ rfl rfl) (fun _ => hS) ?_
  obtain ⟨e2, c8, c9⟩ := at_load Ag64 Sz64 (by intro h; cases h) a6
  obtain ⟨e3, rfl, d0⟩ := c9
  obtain ⟨e4, e5, rfl, d1, d2⟩ := pr_open d0
  obtain rfl := int_rel d1
  obtain ⟨d3, d4, d5, rfl, a7⟩ := rs_rel d2
  refine x_l 7 (.agg #[(.int .i64 x27.1), (.slice d3 d4 d5)]) rfl (by kernel_rfl)  (fun w' hw' => y_load rfl (c8 w' hw')) hS ?_
  refine x_one (i := 8) (by kernel_rfl) ?_
  obtain ⟨r32, d6, hs⟩ := bind_some hs
  refine xk_call (b := false) rfl  Bd47 rfl (c_laws_eqOp (M := M) (x23.1, x23.2) (x27.1, x27.2) a5 a7 hO.fut d6) rfl (by rintro _ _ _ ⟨rfl, a1⟩; exact hS.ext a1) ?_
  rintro _ e6 ⟨rfl, a1⟩
  have h0 := h0.ext a1
  have h1 := h1.ext a1
  have a5 := a5.ext a1
  have a7 := a7.ext a1
  have a4 := at_ext a4 a1
  have a6 := at_ext a6 a1
  have hC := hC.ext a1
  have hO := hO.ext a1
  have hS := hS.ext a1
  refine x_p 9 (.bool (!r32)) rfl (by kernel_rfl)  (fun _ => y_not rfl) (fun _ => hS) ?_
  refine x_end (by kernel_rfl) ?_
  clear hS
  rcases bif_some hs with ⟨a8, hs⟩ | ⟨a8, hs⟩
  ·refine c_condT (congrArg Value.bool a8) ?_
   refine c_sr ?_
   refine pl_val (.bool false) (y_assign rfl) ?_
   refine c_nil ?_
   refine wp_ret ?_
   cases hs
   exact ⟨_, fr_ovl 27 ⟨rfl, trivial⟩, hC⟩
  refine c_condF (congrArg Value.bool a8) ?_
  refine wp_skip ?_
  refine c_region ?_
  refine pl_val (.int .i64 k18) (y_move rfl) ?_
  refine pl_val (.int .i64 (w64 (k18 + 1))) (y_add rfl rfl) ?_
  refine pl_val (.int .i64 (w64 (k18 + 1))) (y_assign rfl) ?_
  refine c_nil ?_
  cases hs
  exact ⟨_, fr_ovl 27 ⟨rfl, rfl, congrArg (Value.int .i64) hw, trivial⟩, hC, hO, h0, h1⟩
 ·skip
  exact ⟨_, fr_ovl 27 ⟨rfl, rfl, rfl, trivial⟩, hC, hO, h0, h1⟩
 cases o20 with
 | nx _ => exact True.intro
 | rt r_ =>
  have hs := after_rt hs
  intro d7 a9 hK
  cases hs
  exact hK
 | br s16 =>
  have hs := after_br hs
  rintro d7 a0 ⟨σ, rfl, hC, hO, h0, h1⟩
  refine c_sr ?_
  refine pl_val (.bool true) (y_assign rfl) ?_
  refine c_nil ?_
  refine wp_ret ?_
  cases hs
  exact ⟨_, fr_ovl 27 ⟨rfl, trivial⟩, hC⟩

theorem Bd15 : Bodied Try.prog 15 := bodied Try.func15 (by kernel_rfl) rfl

def k_laws_eqAlgebra (M : Nat → Prop) (w0 : World) (r : Bool) (a : Act) (w : World) : Prop :=
  ∃ (σ : Nat → Value) , a = fr 16 (ovl σ [(4, (.bool r))]) ∧ Chg [] w0 w
def s_laws_eqAlgebra (a_ : Int × (List (Int × (List Int)))) (b : Int × (List (Int × (List Int)))) : Option (Bool) :=
  (bif (a_.1 != b.1) then some false else (s_laws_eqOpS a_.2 b.2).bind fun r7 =>
  (bif (!r7) then some false else some true))
set_option maxHeartbeats 4000000 in
theorem c_laws_eqAlgebra {M : Nat → Prop} {w : World} {pa0 : Option Addr} {pn0 pc0 : Nat} {pa1 : Option Addr} {pn1 pc1 : Nat} (a_ : Int × (List (Int × (List Int)))) (b : Int × (List (Int × (List Int)))) (h0 : (RT.rs (RT.pr (RT.int .i64) (RT.rs (RT.int .i64)))).val M w (.slice pa0 pn0 pc0) a_.2 ([])) (h1 : (RT.rs (RT.pr (RT.int .i64) (RT.rs (RT.int .i64)))).val M w (.slice pa1 pn1 pc1) b.2 ([])) (hM : ∀ g, w.heap.size ≤ g → M g) {r : Bool} (hs : s_laws_eqAlgebra a_ b = some r) :
    Gives Try.prog 16 [(.agg #[(.int .i64 a_.1), (.slice pa0 pn0 pc0)]), (.agg #[(.int .i64 b.1), (.slice pa1 pn1 pc1)])] w (fun v w' => v = (.bool r) ∧ Chg [] w w') := by
 refine calls_fr Try.func16 rfl Try.ntmps16 (Nat.le_of_ble_eq_true rfl) ?_
 have hO := Own.start (N := Nw w []) hM Nw.fut
 have hC := Chg.refl [] w
 unfold s_laws_eqAlgebra at hs
 refine wp_mono (Q := KPost (k_laws_eqAlgebra M w r)) ?_ (fun e a b6 h => ?_)
 rotate_left
 ·cases e
  case ret =>
   obtain ⟨σ, rfl, hrest⟩ := h
   exact ret1x Try.results16 (res_tmp rfl) ⟨rfl, hrest⟩
  all_goals exact (h : False).elim
 refine c_sr ?_
 obtain ⟨a9, a5, b2, b0, a4, a0⟩ := new_block w [(.int .i64 a_.1), (.slice pa0 pn0 pc0)] 30
 refine pl_val (w' := a9) (.pointer (some ⟨a5, 0, none⟩)) (y_box rfl (by rw [b2, b0]; kernel_rfl)) ?_
 have h0 := h0.ext a4
 have h1 := h1.ext a4
 have hC := hC.ext a4
 have hO := hO.new1 a4 b0 a0.lt
 obtain ⟨b3, a6, b4, b1, a2, a3⟩ := new_block a9 [(.int .i64 b.1), (.slice pa1 pn1 pc1)] 30
 refine pl_val (w' := b3) (.pointer (some ⟨a6, 0, none⟩)) (y_box rfl (by rw [b4, b1]; kernel_rfl)) ?_
 have h0 := h0.ext a2
 have h1 := h1.ext a2
 have a0 := a0.cn a2
 have hC := hC.ext a2
 have hO := hO.new1 a2 b1 a3.lt
 refine pl_val (.bool false) (y_assign rfl) ?_
 refine c_nil ?_
 refine c_seq ?_
 refine c_sr ?_
 refine pl_val (.pointer (some ⟨a5, 0, none⟩)) (y_faddr rfl Fa30x0) ?_
 refine pl_val (.int .i64 a_.1) (y_load rfl ((box_load Ag3 Sz3 a0 [] [(.int .i64 a_.1)] [(.slice pa0 pn0 pc0)] rfl rfl (fun _ => rfl)) _ (Chg.refl _ _))) ?_
 refine pl_val (.pointer (some ⟨a6, 0, none⟩)) (y_faddr rfl Fa30x0) ?_
 refine pl_val (.int .i64 b.1) (y_load rfl ((box_load Ag3 Sz3 a3 [] [(.int .i64 b.1)] [(.slice pa1 pn1 pc1)] rfl rfl (fun _ => rfl)) _ (Chg.refl _ _))) ?_
 refine pl_val (.bool (a_.1 != b.1)) (y_neq rfl rfl) ?_
 refine c_nil ?_
 rcases bif_some hs with ⟨a7, hs⟩ | ⟨a7, hs⟩
 ·refine c_condT (congrArg Value.bool a7) ?_
  refine c_sr ?_
  refine pl_val (.bool false) (y_assign rfl) ?_
  refine c_nil ?_
  refine wp_ret ?_
  cases hs
  exact ⟨_, fr_ovl 16 ⟨rfl, trivial⟩, hC⟩
 refine c_condF (congrArg Value.bool a7) ?_
 refine wp_skip ?_
 refine c_seq ?_
 refine c_sr ?_
 refine pl_val (.pointer (some ⟨a5, 1, none⟩)) (y_faddr rfl Fa30x1) ?_
 refine pl_val (.slice pa0 pn0 pc0) (y_load rfl ((box_load Ag26 Sz26 a0 [(.int .i64 a_.1)] [(.slice pa0 pn0 pc0)] [] rfl rfl (fun _ => rfl)) _ (Chg.refl _ _))) ?_
 refine pl_val (.pointer (some ⟨a6, 1, none⟩)) (y_faddr rfl Fa30x1) ?_
 refine pl_val (.slice pa1 pn1 pc1) (y_load rfl ((box_load Ag26 Sz26 a3 [(.int .i64 b.1)] [(.slice pa1 pn1 pc1)] [] rfl rfl (fun _ => rfl)) _ (Chg.refl _ _))) ?_
 obtain ⟨r7, b5, hs⟩ := bind_some hs
 refine pl_call Bd15 rfl (c_laws_eqOpS (M := M) a_.2 b.2 h0 h1 hO.fut b5) ?_
 rintro _ b7 ⟨rfl, a1⟩
 have h0 := h0.ext a1
 have h1 := h1.ext a1
 have a0 := a0.cn a1
 have a3 := a3.cn a1
 have hC := hC.ext a1
 have hO := hO.ext a1
 refine pl_val (.bool (!r7)) (y_not rfl) ?_
 refine c_nil ?_
 have hO := hO.drop
 have hO := hO.drop
 rcases bif_some hs with ⟨a8, hs⟩ | ⟨a8, hs⟩
 ·refine c_condT (congrArg Value.bool a8) ?_
  refine c_sr ?_
  refine pl_val (.bool false) (y_assign rfl) ?_
  refine c_nil ?_
  refine wp_ret ?_
  cases hs
  exact ⟨_, fr_ovl 16 ⟨rfl, trivial⟩, hC⟩
 refine c_condF (congrArg Value.bool a8) ?_
 refine wp_skip ?_
 refine c_sr ?_
 refine pl_val (.bool true) (y_assign rfl) ?_
 refine c_nil ?_
 refine wp_ret ?_
 cases hs
 exact ⟨_, fr_ovl 16 ⟨rfl, trivial⟩, hC⟩

theorem Ag24 : AggT Try.prog 24 true := fun _ => by kernel_rfl

theorem Sz24 : SzT Try.prog 24 2 := ⟨_, rfl, rfl⟩

theorem Bd11 : Bodied Try.prog 11 := bodied Try.func11 (by kernel_rfl) rfl

theorem Bd13 : Bodied Try.prog 13 := bodied Try.func13 (by kernel_rfl) rfl

theorem Bd24 : Bodied Try.prog 24 := bodied Try.func24 (by kernel_rfl) rfl

theorem Bd26 : Bodied Try.prog 26 := bodied Try.func26 (by kernel_rfl) rfl

theorem Bd16 : Bodied Try.prog 16 := bodied Try.func16 (by kernel_rfl) rfl

def k_laws_FnExactIsUnreachableSet (M : Nat → Prop) (w0 : World) (r : Bool) (a : Act) (w : World) : Prop :=
  ∃ (σ : Nat → Value) , a = fr 56 (ovl σ [(4, (.bool r))]) ∧ Chg [] w0 w
def s_laws_FnExactIsUnreachableSet (aA : Int × (List (Int × (List Int)))) (aPlaces : List Int) : Option (Bool) :=
  (bif (decide (1048576 < (aPlaces.length : Int))) then some true else (s_laws_szAlgebra (aA.1, aA.2) 1048576).bind fun r6 =>
  (bif (decide (r6 < 0)) then some true else (s_laws_toAlgebra (aA.1, aA.2)).bind fun r9 =>
  (s_laws_toIntS aPlaces).bind fun r12 =>
  (s_spec_IsUnreachableSet (r9.1, r9.2) r12).bind fun r15 =>
  (s_laws_toAlgebra (aA.1, aA.2)).bind fun r17 =>
  (s_laws_toIntS aPlaces).bind fun r22 =>
  (s_impl_IsUnreachableSet (r17.1, r17.2) r22).bind fun r25 =>
  (bif ((!(r25.1 == r15.1)) || (!(r25.2 == r15.2))) then some false else (s_laws_toAlgebra (aA.1, aA.2)).bind fun r39 =>
  (s_laws_eqAlgebra (r17.1, r17.2) (r39.1, r39.2)).bind fun r42 =>
  (bif (!r42) then some false else (s_laws_toIntS aPlaces).bind fun r45 =>
  (s_laws_eqIntS r22 r45).bind fun r48 =>
  (bif (!r48) then some false else some true)))))
set_option maxHeartbeats 4000000 in
theorem c_laws_FnExactIsUnreachableSet {M : Nat → Prop} {w : World} {pa0 : Option Addr} {pn0 pc0 : Nat} {pa1 : Option Addr} {pn1 pc1 : Nat} (aA : Int × (List (Int × (List Int)))) (aPlaces : List Int) (h0 : (RT.rs (RT.pr (RT.int .i64) (RT.rs (RT.int .i64)))).val M w (.slice pa0 pn0 pc0) aA.2 ([])) (h1 : (RT.rs (RT.int .i64)).val M w (.slice pa1 pn1 pc1) aPlaces ([])) (hM : ∀ g, w.heap.size ≤ g → M g) {r : Bool} (hs : s_laws_FnExactIsUnreachableSet aA aPlaces = some r) :
    Gives Try.prog 6 [(.agg #[(.int .i64 aA.1), (.slice pa0 pn0 pc0)]), (.slice pa1 pn1 pc1)] w (fun v w' => v = (.bool r) ∧ Chg [] w w') := by
 refine calls_fr Try.func6 rfl Try.ntmps6 (Nat.le_of_ble_eq_true rfl) ?_
 have hO := Own.start (N := Nw w []) hM Nw.fut
 have hC := Chg.refl [] w
 unfold s_laws_FnExactIsUnreachableSet at hs
 refine wp_mono (Q := KPost (k_laws_FnExactIsUnreachableSet M w r)) ?_ (fun e a h9 h => ?_)
 rotate_left
 ·cases e
  case ret =>
   obtain ⟨σ, rfl, hrest⟩ := h
   exact ret1x Try.results6 (res_tmp rfl) ⟨rfl, hrest⟩
  all_goals exact (h : False).elim
 refine c_sr ?_
 obtain ⟨f1, b0, f2, e3, c9, a0⟩ := new_block w [(.int .i64 aA.1), (.slice pa0 pn0 pc0)] 24
 refine pl_val (w' := f1) (.pointer (some ⟨b0, 0, none⟩)) (y_box rfl (by rw [f2, e3]; kernel_rfl)) ?_
 have h0 := h0.ext c9
 have h1 := h1.ext c9
 have hC := hC.ext c9
 have hO := hO.new1 c9 e3 a0.lt
 refine pl_val (.bool false) (y_assign rfl) ?_
 refine c_nil ?_
 refine c_seq ?_
 refine c_sr ?_
 refine pl_val (.slice pa1 pn1 pc1) (y_move rfl) ?_
 refine pl_val (.int .i64 (aPlaces.length : Int)) (y_len' Sl37 (rs_len h1) rfl) ?_
 refine pl_val (.bool (decide (1048576 < (aPlaces.length : Int)))) (y_gtr rfl rfl) ?_
 refine c_nil ?_
 rcases bif_some hs with ⟨d5, hs⟩ | ⟨d5, hs⟩
 ·refine c_condT (congrArg Value.bool d5) ?_
  refine c_sr ?_
  refine pl_val (.bool true) (y_assign rfl) ?_
  refine c_nil ?_
  refine wp_ret ?_
  cases hs
  exact ⟨_, fr_ovl 56 ⟨rfl, trivial⟩, hC⟩
 refine c_condF (congrArg Value.bool d5) ?_
 refine wp_skip ?_
 refine c_sr ?_
 refine pl_val (.int .i64 1048576) (y_assign rfl) ?_
 refine c_nil ?_
 refine c_sr ?_
 refine pl_val (.agg #[(.int .i64 aA.1), (.slice pa0 pn0 pc0)]) (y_load rfl ((box_load Ag24 Sz24 a0 [] [(.int .i64 aA.1), (.slice pa0 pn0 pc0)] [] rfl rfl (fun h => nomatch h)) _ (Chg.refl _ _))) ?_
 refine pl_val (.int .i64 1048576) (y_move rfl) ?_
 obtain ⟨r6, f3, hs⟩ := bind_some hs
 refine pl_call Bd11 rfl (c_laws_szAlgebra (M := M) (aA.1, aA.2) 1048576 h0 hO.fut f3) ?_
 rintro _ i0 ⟨rfl, c4⟩
 have h0 := h0.ext c4
 have h1 := h1.ext c4
 have a0 := a0.cn c4
 have hC := hC.ext c4
 have hO := hO.ext c4
 refine pl_val (.int .i64 r6) (y_assign rfl) ?_
 refine c_nil ?_
 refine c_seq ?_
 refine c_sr ?_
 refine pl_val (.int .i64 r6) (y_move rfl) ?_
 refine pl_val (.bool (decide (r6 < 0))) (y_lss rfl rfl) ?_
 refine c_nil ?_
 rcases bif_some hs with ⟨d6, hs⟩ | ⟨d6, hs⟩
 ·refine c_condT (congrArg Value.bool d6) ?_
  refine c_sr ?_
  refine pl_val (.bool true) (y_assign rfl) ?_
  refine c_nil ?_
  refine wp_ret ?_
  cases hs
  exact ⟨_, fr_ovl 56 ⟨rfl, trivial⟩, hC⟩
 refine c_condF (congrArg Value.bool d6) ?_
 refine wp_skip ?_
 refine c_sr ?_
 refine pl_val (.agg #[(.int .i64 aA.1), (.slice pa0 pn0 pc0)]) (y_load rfl ((box_load Ag24 Sz24 a0 [] [(.int .i64 aA.1), (.slice pa0 pn0 pc0)] [] rfl rfl (fun h => nomatch h)) _ (Chg.refl _ _))) ?_
 obtain ⟨r9, f4, hs⟩ := bind_some hs
 refine pl_call Bd13 rfl (c_laws_toAlgebra (M := M) (aA.1, aA.2) h0 hO.fut f4) ?_
 rintro _ i1 ⟨i2, i3, i4, d7, rfl, c5, c6, f5⟩
 have h0 := h0.ext c5
 have h1 := h1.ext c5
 have a0 := a0.cn c5
 have hC := hC.ext c5
 have hO := Own.join0 hO c5 f5
 have hO := hO.perm (R := d7 ++ (([b0]) ++ ([]))) (by simp)
 refine pl_val (.slice pa1 pn1 pc1) (y_move rfl) ?_
 obtain ⟨r12, f6, hs⟩ := bind_some hs
 refine pl_call Bd25 rfl (c_laws_toIntS (M := M) aPlaces h1 hO.fut f6) ?_
 rintro _ i5 ⟨i6, i7, i9, e4, rfl, b6, d8, f7⟩
 have h0 := h0.ext b6
 have h1 := h1.ext b6
 have a0 := a0.cn b6
 have c6 := c6.ext b6
 have hC := hC.ext b6
 have hO := Own.join0 hO b6 f7
 have hO := hO.perm (R := e4 ++ (d7 ++ (([b0]) ++ ([])))) (by simp)
 have hO := hO.fr1
 obtain ⟨r15, f8, hs⟩ := bind_some hs
 refine pl_call Bd24 rfl (c_spec_IsUnreachableSet (M := (Less (Less M d7) e4)) (r9.1, r9.2) r12 ((((Frz.os (Frz.pr Frz.int (Frz.os Frz.int)))).val c6 Less.sub Less.not).sub Less.sub) (((Frz.os Frz.int)).val (d8.sub Less.sub) Less.sub Less.not) (hO.less).less.fut f8) ?_
 rintro _ j0 ⟨rfl, b4⟩
 have h0 := h0.ext b4
 have h1 := h1.ext b4
 have a0 := a0.cn b4
 have c6 := c6.ext b4
 have d8 := d8.ext b4
 have hC := hC.ext b4
 have hO := hO.ext b4
 refine pl_val (.tuple #[(.bool r15.1), (.bool r15.2)]) (y_move rfl) ?_
 refine pl_val (.bool r15.1) (y_extract rfl (by kernel_rfl)) ?_
 refine pl_val (.bool r15.2) (y_extract rfl (by kernel_rfl)) ?_
 refine pl_val (.bool r15.1) (y_assign rfl) ?_
 refine pl_val (.bool r15.2) (y_assign rfl) ?_
 refine c_nil ?_
 have hO := hO.drop
 have hO := hO.drop
 refine c_sr ?_
 refine pl_val (.agg #[(.int .i64 aA.1), (.slice pa0 pn0 pc0)]) (y_load rfl ((box_load Ag24 Sz24 a0 [] [(.int .i64 aA.1), (.slice pa0 pn0 pc0)] [] rfl rfl (fun h => nomatch h)) _ (Chg.refl _ _))) ?_
 obtain ⟨r17, f9, hs⟩ := bind_some hs
 refine pl_call Bd13 rfl (c_laws_toAlgebra (M := M) (aA.1, aA.2) h0 hO.fut f9) ?_
 rintro _ g0 ⟨b7, b8, b9, c0, rfl, c7, a1, g1⟩
 have h0 := h0.ext c7
 have h1 := h1.ext c7
 have a0 := a0.cn c7
 have hC := hC.ext c7
 have hO := Own.join0 hO c7 g1
 have hO := hO.perm (R := c0 ++ (([b0]) ++ ([]))) (by simp)
 obtain ⟨g2, c1, g3, e5, c2, e6⟩ := new_block g0 [(.int .i64 0), (.slice none 0 0)] 30
 refine pl_val (w' := g2) (.pointer (some ⟨c1, 0, none⟩)) (y_alloc (by rw [g3, e5]; kernel_rfl)) ?_
 have h0 := h0.ext c2
 have h1 := h1.ext c2
 have a0 := a0.cn c2
 have a1 := a1.ext c2
 have hC := hC.ext c2
 have hO := hO.new1 c2 e5 e6.lt
 obtain ⟨e7, g4, c3, a2⟩ := box_store (P := Try.prog) e6 [] [(.int .i64 0), (.slice none 0 0)] [] [(.int .i64 r17.1), (.slice b7 b8 b9)] rfl rfl (by intro u hu; simp only [List.mem_cons, List.not_mem_nil, or_false] at hu; rcases hu with rfl | rfl <;> rfl)
 refine pl_skip (w' := e7) (ys_store rfl rfl (g4 _ _ rfl Sz30)) ?_
 have h0 := h0.mt c3 hO same_
 have h1 := h1.mt c3 hO same_
 have a0 := a0.ap c3 hO same_ (mem_r (mem_l (List.mem_singleton.2 rfl)))
 have a1 := a1.ma c3 hO same_ (fun _ e => (mem_l (e)))
 have hC := hC.st c3 hO same_
 have hO := hO.ext c3
 have a2 : BoxV e7 c1 30 [(.int .i64 r17.1), (.slice b7 b8 b9)] := a2
 refine c_nil ?_
 refine c_sr ?_
 refine pl_val (.slice pa1 pn1 pc1) (y_move rfl) ?_
 obtain ⟨r22, g5, hs⟩ := bind_some hs
 refine pl_call Bd25 rfl (c_laws_toIntS (M := M) aPlaces h1 hO.fut g5) ?_
 rintro _ j1 ⟨d0, d1, d2, c8, rfl, b5, a3, g6⟩
 have h0 := h0.ext b5
 have h1 := h1.ext b5
 have a0 := a0.cn b5
 have a1 := a1.ext b5
 have a2 := a2.cn b5
 have hC := hC.ext b5
 have hO := Own.join0 hO b5 g6
 have hO := hO.perm (R := c8 ++ (([c1]) ++ (c0 ++ (([b0]) ++ ([]))))) (by simp)
 refine pl_val (.slice d0 d1 d2) (y_assign rfl) ?_
 refine c_nil ?_
 refine c_sr ?_
 refine pl_val (.agg #[(.int .i64 r17.1), (.slice b7 b8 b9)]) (y_load rfl ((box_load Ag30 Sz30 a2 [] [(.int .i64 r17.1), (.slice b7 b8 b9)] [] rfl rfl (fun h => nomatch h)) _ (Chg.refl _ _))) ?_
 refine pl_val (.slice d0 d1 d2) (y_move rfl) ?_
 have hO := hO.fr2
 obtain ⟨r25, g7, hs⟩ := bind_some hs
 refine pl_call Bd26 rfl (c_impl_IsUnreachableSet (M := (Less (Less M c0) c8)) (r17.1, r17.2) r22 ((((Frz.os (Frz.pr Frz.int (Frz.os Frz.int)))).val a1 Less.sub Less.not).sub Less.sub) (((Frz.os Frz.int)).val (a3.sub Less.sub) Less.sub Less.not) (hO.less).less.fut g7) ?_
 rintro _ e8 ⟨rfl, b1⟩
 have h0 := h0.ext b1
 have h1 := h1.ext b1
 have a0 := a0.cn b1
 have a1 := a1.ext b1
 have a2 := a2.cn b1
 have a3 := a3.ext b1
 have hC := hC.ext b1
 have hO := hO.ext b1
 refine pl_val (.tuple #[(.bool r25.1), (.bool r25.2)]) (y_move rfl) ?_
 refine pl_val (.bool r25.1) (y_extract rfl (by kernel_rfl)) ?_
 refine pl_val (.bool r25.2) (y_extract rfl (by kernel_rfl)) ?_
 refine pl_val (.bool r25.1) (y_assign rfl) ?_
 refine pl_val (.bool r25.2) (y_assign rfl) ?_
 refine c_nil ?_
 refine c_seq ?_
 refine c_seq ?_
 refine c_mid (I := fun a d3 => ∃ (σ : Nat → Value), a = fr 56 (ovl σ [(1, (.slice pa1 pn1 pc1)), (2, (.pointer (some ⟨b0, 0, none⟩))), (4, (.bool false)), (8, (.pointer (some ⟨c1, 0, none⟩))), (9, (.slice d0 d1 d2)), (45, (.bool ((!(r25.1 == r15.1)) || (!(r25.2 == r15.2)))))]) ∧ Chg [] e8 d3) ?_ ?_
 ·have hMid := Chg.refl [] e8
  refine c_region ?_
  refine pl_val (.bool r25.1) (y_move rfl) ?_
  refine pl_val (.bool r15.1) (y_move rfl) ?_
  refine pl_val (.bool (!(r25.1 == r15.1))) (y_bneq Try.underlying4 rfl rfl) ?_
  refine pl_val (.bool (!(r25.1 == r15.1))) (y_move rfl) ?_
  rcases Bool.eq_false_or_eq_true ((!(r25.1 == r15.1))) with a5 | a5
  ·skip
   refine pl_not (tg := 41) (by kernel_rfl) (congrArg Value.bool a5) ?_
   refine pl_not (tg := 41) (by kernel_rfl) (congrArg Value.bool a5) ?_
   refine pl_not (tg := 41) (by kernel_rfl) (congrArg Value.bool a5) ?_
   refine pl_val (.bool ((!(r25.1 == r15.1)) || (!(r25.2 == r15.2)))) (y_pick_t (congrArg Value.bool a5) (congrArg Value.bool (by rw [a5]; rfl))) ?_
   refine c_nil ?_
   exact ⟨_, fr_ovl 56 ⟨rfl, rfl, rfl, rfl, rfl, rfl, trivial⟩, hMid⟩
  refine pl_yes (.bool r25.2) (tg := 41) (by kernel_rfl) (congrArg Value.bool a5) (y_move rfl) ?_
  refine pl_yes (.bool r15.2) (tg := 41) (by kernel_rfl) (congrArg Value.bool a5) (y_move rfl) ?_
  refine pl_yes (.bool (!(r25.2 == r15.2))) (tg := 41) (by kernel_rfl) (congrArg Value.bool a5) (y_bneq Try.underlying4 rfl rfl) ?_
  refine pl_val (.bool ((!(r25.1 == r15.1)) || (!(r25.2 == r15.2)))) (y_pick_f (congrArg Value.bool a5) (congrArg Value.bool (by rw [a5]; rfl))) ?_
  refine c_nil ?_
  exact ⟨_, fr_ovl 56 ⟨rfl, rfl, rfl, rfl, rfl, rfl, trivial⟩, hMid⟩
 rintro j2 d3 ⟨σ, rfl, b2⟩
 have h0 := h0.ext b2
 have h1 := h1.ext b2
 have a0 := a0.cn b2
 have a1 := a1.ext b2
 have a2 := a2.cn b2
 have a3 := a3.ext b2
 have hC := hC.ext b2
 have hO := hO.ext b2
 rcases bif_some hs with ⟨d9, hs⟩ | ⟨d9, hs⟩
 ·refine c_condT (congrArg Value.bool d9) ?_
  refine c_sr ?_
  refine pl_val (.bool false) (y_assign rfl) ?_
  refine c_nil ?_
  refine wp_ret ?_
  cases hs
  exact ⟨_, fr_ovl 56 ⟨rfl, trivial⟩, hC⟩
 refine c_condF (congrArg Value.bool d9) ?_
 refine wp_skip ?_
 refine c_seq ?_
 refine c_seq ?_
 refine x_start [] Mx rfl ?_
 have a8 := Chg.drew d3
 generalize World.drew d3 = g8 at a8 ⊢
 have h0 := h0.ext a8
 have h1 := h1.ext a8
 have a0 := a0.cn a8
 have a1 := a1.ext a8
 have a2 := a2.cn a8
 have a3 := a3.ext a8
 have hC := hC.ext a8
 have hO := hO.ext a8
 have hS := Chg.refl [] g8
 refine x_l 0 (.agg #[(.int .i64 r17.1), (.slice b7 b8 b9)]) rfl (by kernel_rfl)  (fun w' hw' => y_load rfl ((box_load Ag30 Sz30 a2 [] [(.int .i64 r17.1), (.slice b7 b8 b9)] [] rfl rfl (fun h => nomatch h)) w' hw')) hS ?_
 refine x_l 1 (.agg #[(.int .i64 aA.1), (.slice pa0 pn0 pc0)]) rfl (by kernel_rfl)  (fun w' hw' => y_load rfl ((box_load Ag24 Sz24 a0 [] [(.int .i64 aA.1), (.slice pa0 pn0 pc0)] [] rfl rfl (fun h => nomatch h)) w' hw')) hS ?_
 refine x_one (i := 2) (by kernel_rfl) ?_
 obtain ⟨r39, g9, hs⟩ := bind_some hs
 refine xk_call (b := false) rfl  Bd13 rfl (c_laws_toAlgebra (M := M) (aA.1, aA.2) h0 hO.fut g9) rfl (by rintro _ _ _ ⟨h2, h3, h4, d4, rfl, a6, b3, e9⟩; exact hS.ext a6) ?_
 rintro _ j3 ⟨h2, h3, h4, d4, rfl, a6, b3, e9⟩
 have h0 := h0.ext a6
 have h1 := h1.ext a6
 have a0 := a0.cn a6
 have a1 := a1.ext a6
 have a2 := a2.cn a6
 have a3 := a3.ext a6
 have hC := hC.ext a6
 have hO := Own.join0 hO a6 e9
 have hO := hO.perm (R := d4 ++ (c0 ++ (c8 ++ (([c1]) ++ (([b0]) ++ ([])))))) (by simp)
 have hS := hS.ext a6
 refine x_one (i := 3) (by kernel_rfl) ?_
 have hO := hO.fr1
 obtain ⟨r42, h5, hs⟩ := bind_some hs
 refine xk_call (b := false) rfl  Bd16 rfl (c_laws_eqAlgebra (M := (Less (Less M c0) d4)) (r17.1, r17.2) (r39.1, r39.2) ((((Frz.os (Frz.pr Frz.int (Frz.os Frz.int)))).val a1 Less.sub Less.not).sub Less.sub) (((Frz.os (Frz.pr Frz.int (Frz.os Frz.int)))).val (b3.sub Less.sub) Less.sub Less.not) (hO.less).less.fut h5) rfl (by rintro _ _ _ ⟨rfl, a4⟩; exact hS.ext a4) ?_
 rintro _ j4 ⟨rfl, a4⟩
 have h0 := h0.ext a4
 have h1 := h1.ext a4
 have a0 := a0.cn a4
 have a1 := a1.ext a4
 have a2 := a2.cn a4
 have a3 := a3.ext a4
 have b3 := b3.ext a4
 have hC := hC.ext a4
 have hO := hO.ext a4
 have hS := hS.ext a4
 refine x_p 4 (.bool (!r42)) rfl (by kernel_rfl)  (fun _ => y_not rfl) (fun _ => hS) ?_
 refine x_end (by kernel_rfl) ?_
 clear hS
 rcases bif_some hs with ⟨e0, hs⟩ | ⟨e0, hs⟩
 ·refine c_condT (congrArg Value.bool e0) ?_
  refine c_sr ?_
  refine pl_val (.bool false) (y_assign rfl) ?_
  refine c_nil ?_
  have hO := hO.drop
  have hO := hO.drop
  have hO := hO.fr1
  have hO := hO.drop
  have hO := hO.fr1
  have hO := hO.drop
  refine wp_ret ?_
  cases hs
  exact ⟨_, fr_ovl 56 ⟨rfl, trivial⟩, hC⟩
 refine c_condF (congrArg Value.bool e0) ?_
 refine wp_skip ?_
 refine c_seq ?_
 refine c_sr ?_
 refine pl_val (.slice d0 d1 d2) (y_move rfl) ?_
 refine pl_val (.slice pa1 pn1 pc1) (y_move rfl) ?_
 obtain ⟨r45, h6, hs⟩ := bind_some hs
 refine pl_call Bd25 rfl (c_laws_toIntS (M := M) aPlaces h1 hO.fut h6) ?_
 rintro _ j5 ⟨j6, j7, j8, f0, rfl, a9, e1, h7⟩
 have h0 := h0.ext a9
 have h1 := h1.ext a9
 have a0 := a0.cn a9
 have a1 := a1.ext a9
 have a2 := a2.cn a9
 have a3 := a3.ext a9
 have b3 := b3.ext a9
 have hC := hC.ext a9
 have hO := Own.join0 hO a9 h7
 have hO := hO.perm (R := f0 ++ (c0 ++ (d4 ++ (c8 ++ (([c1]) ++ (([b0]) ++ ([]))))))) (by simp)
 have hO := hO.fr3
 obtain ⟨r48, h8, hs⟩ := bind_some hs
 refine pl_call Bd27 rfl (c_laws_eqIntS (M := (Less (Less M c8) f0)) r22 r45 ((((Frz.os Frz.int)).val a3 Less.sub Less.not).sub Less.sub) (((Frz.os Frz.int)).val (e1.sub Less.sub) Less.sub Less.not) (hO.less).less.fut h8) ?_
 rintro _ j9 ⟨rfl, a7⟩
 have h0 := h0.ext a7
 have h1 := h1.ext a7
 have a0 := a0.cn a7
 have a1 := a1.ext a7
 have a2 := a2.cn a7
 have a3 := a3.ext a7
 have b3 := b3.ext a7
 have e1 := e1.ext a7
 have hC := hC.ext a7
 have hO := hO.ext a7
 refine pl_val (.bool (!r48)) (y_not rfl) ?_
 refine c_nil ?_
 have hO := hO.drop
 have hO := hO.drop
 have hO := hO.drop
 have hO := hO.drop
 have hO := hO.drop
 have hO := hO.drop
 rcases bif_some hs with ⟨e2, hs⟩ | ⟨e2, hs⟩
 ·refine c_condT (congrArg Value.bool e2) ?_
  refine c_sr ?_
  refine pl_val (.bool false) (y_assign rfl) ?_
  refine c_nil ?_
  refine wp_ret ?_
  cases hs
  exact ⟨_, fr_ovl 56 ⟨rfl, trivial⟩, hC⟩
 refine c_condF (congrArg Value.bool e2) ?_
 refine wp_skip ?_
 refine c_sr ?_
 refine pl_val (.bool true) (y_assign rfl) ?_
 refine c_nil ?_
 refine wp_ret ?_
 cases hs
 exact ⟨_, fr_ovl 56 ⟨rfl, trivial⟩, hC⟩

end Go.Proofs
