/- What functions of the program compute, as plain functions, and that a call gives just that. Conditions: those named in each theorem. -/
import Derived.Test.YtmghggenjagioaaF3
set_option linter.unusedVariables false
namespace Go.Proofs
open Go.G Go.RowKit
set_option maxRecDepth 100000

def k_impl_chainer__direct_2__g (M : Nat → Prop) (w0 : World) (r : Bool) (a : Act) (w : World) : Prop :=
  ∃ (σ : Nat → Value) , a = fr 26 (ovl σ [(3, (.bool r))]) ∧ Chg [] w0 w
def s_impl_chainer__direct_2__g (f : Int) (b1 : Int × (List (List Int)) × (List Bool) × (List (List Int)) × (List (List Int)) × Int × Int) : Option (Bool) :=
  (idx b1.2.2.1 f).bind fun x8 =>
  (bif x8 then (idx b1.2.2.2.2.1 f).bind fun x11 =>
  (s_impl_seconds b1.1).bind fun r16 =>
  (s_impl_sameList x11 r16).bind fun r19 =>
  some r19 else some false)
set_option maxHeartbeats 4000000 in
theorem c_impl_chainer__direct_2__g {M : Nat → Prop} {w : World} {vg0 : Nat} {vg1 : Nat} {va1x1 : Option Addr} {vn1x1 vc1x1 : Nat} {va1x2 : Option Addr} {vn1x2 vc1x2 : Nat} {va1x3 : Option Addr} {vn1x3 vc1x3 : Nat} {va1x4 : Option Addr} {vn1x4 vc1x4 : Nat} (f : Int) (b1 : Int × (List (List Int)) × (List Bool) × (List (List Int)) × (List (List Int)) × Int × Int) (hb0 : RBox M w vg0 52 [(.pointer (some ⟨vg1, 0, none⟩))]) (hb1 : RBox M w vg1 58 [(.int .i64 b1.1), (.slice va1x1 vn1x1 vc1x1), (.slice va1x2 vn1x2 vc1x2), (.slice va1x3 vn1x3 vc1x3), (.slice va1x4 vn1x4 vc1x4), (.int .i64 b1.2.2.2.2.2.1), (.int .i64 b1.2.2.2.2.2.2)]) (hl1x1 : (RT.rs (RT.rs (RT.int .i64))).val M w (.slice va1x1 vn1x1 vc1x1) b1.2.1 ([])) (hl1x2 : (RT.rs RT.bool).val M w (.slice va1x2 vn1x2 vc1x2) b1.2.2.1 ([])) (hl1x3 : (RT.rs (RT.rs (RT.int .i64))).val M w (.slice va1x3 vn1x3 vc1x3) b1.2.2.2.1 ([])) (hl1x4 : (RT.rs (RT.rs (RT.int .i64))).val M w (.slice va1x4 vn1x4 vc1x4) b1.2.2.2.2.1 ([])) (hM : ∀ g, w.heap.size ≤ g → M g) {r : Bool} (hs : s_impl_chainer__direct_2__g f b1 = some r) :
    Gives Try.prog 101 [(.int .i64 f), (.pointer (some ⟨vg0, 0, none⟩))] w (fun v w' => v = (.bool r) ∧ Chg [] w w') := by
 refine calls_fr Try.func101 rfl Try.ntmps101 (Nat.le_of_ble_eq_true rfl) ?_
 have hO := Own.start (N := Nw w []) hM Nw.fut
 have hC := Chg.refl [] w
 unfold s_impl_chainer__direct_2__g at hs
 refine wp_mono (Q := KPost (k_impl_chainer__direct_2__g M w r)) ?_ (fun e a c9 h => ?_)
 rotate_left
 ·cases e
  case ret =>
   obtain ⟨σ, rfl, hrest⟩ := h
   exact ret1x Try.results101 (res_tmp rfl) ⟨rfl, hrest⟩
  all_goals exact (h : False).elim
 refine c_sr ?_
 refine pl_val (.bool false) (y_assign rfl) ?_
 refine c_nil ?_
 refine c_seq ?_
 refine x_start [] Mx rfl ?_
 have a3 := Chg.drew w
 generalize World.drew w = b0 at a3 ⊢
 have hb0 := hb0.ext a3
 have hl1x1 := hl1x1.ext a3
 have hl1x2 := hl1x2.ext a3
 have hl1x3 := hl1x3.ext a3
 have hl1x4 := hl1x4.ext a3
 have hb1 := hb1.ext a3
 have hC := hC.ext a3
 have hO := hO.ext a3
 have hS := Chg.refl [] b0
 refine x_l 0 (.pointer (some ⟨vg1, 0, none⟩)) rfl (by kernel_rfl)  (fun w' hw' => y_load rfl ((box_load Ag52 Sz52 hb0.1 [] [(.pointer (some ⟨vg1, 0, none⟩))] [] rfl rfl (fun _ => rfl)) w' hw')) hS ?_
 refine x_p 1 (.pointer (some ⟨vg1, 0, none⟩)) rfl (by kernel_rfl)  (fun _ => y_nilc rfl) (fun _ => hS) ?_
 refine x_p 2 (.pointer (some ⟨vg1, 2, none⟩)) rfl (by kernel_rfl)  (fun _ => y_faddr rfl Fa58x2) (fun _ => hS) ?_
 refine x_l 3 (.slice va1x2 vn1x2 vc1x2) rfl (by kernel_rfl)  (fun w' hw' => y_load rfl ((box_load Ag56 Sz56 hb1.1 [(.int .i64 b1.1), (.slice va1x1 vn1x1 vc1x1)] [(.slice va1x2 vn1x2 vc1x2)] [(.slice va1x3 vn1x3 vc1x3), (.slice va1x4 vn1x4 vc1x4), (.int .i64 b1.2.2.2.2.2.1), (.int .i64 b1.2.2.2.2.2.2)] rfl rfl (fun _ => rfl)) w' hw')) hS ?_
 refine x_p 4 (.int .i64 f) rfl (by kernel_rfl)  (fun _ => y_move rfl) (fun _ => hS) ?_
 obtain ⟨x8, b2, hs⟩ := bind_some hs
 obtain ⟨b3, b4, b5, a5⟩ := rs_idx Sl56 Sz4 hl1x2 b2
 refine x_p 5 (.pointer (some ⟨b3, b4, none⟩)) rfl (by kernel_rfl)  (fun _ => b5 _ _ _ _ _ _ _ _ _ rfl rfl) (fun _ => hS) ?_
 refine x_l 6 (.bool x8) rfl (by kernel_rfl)  (fun w' hw' => y_load rfl ((at_load_bool Ag4 Sz4 a5) w' hw')) hS ?_
 refine x_p 7 (.bool x8) rfl (by kernel_rfl)  (fun _ => y_move rfl) (fun _ => hS) ?_
 rcases bif_some hs with ⟨a0, hs⟩ | ⟨a0, hs⟩
 ·skip
  refine x_ly 8 (.pointer (some ⟨vg1, 0, none⟩)) rfl (by kernel_rfl) (tg := 11) (by kernel_rfl) (congrArg Value.bool a0) (fun w' hw' => y_load rfl ((box_load Ag52 Sz52 hb0.1 [] [(.pointer (some ⟨vg1, 0, none⟩))] [] rfl rfl (fun _ => rfl)) w' hw')) hS ?_
  refine x_py 9 (.pointer (some ⟨vg1, 0, none⟩)) rfl (by kernel_rfl) (tg := 11) (by kernel_rfl) (congrArg Value.bool a0) (fun _ => y_nilc rfl) (fun _ => hS) ?_
  refine x_py 10 (.pointer (some ⟨vg1, 4, none⟩)) rfl (by kernel_rfl) (tg := 11) (by kernel_rfl) (congrArg Value.bool a0) (fun _ => y_faddr rfl Fa58x4) (fun _ => hS) ?_
  refine x_ly 11 (.slice va1x4 vn1x4 vc1x4) rfl (by kernel_rfl) (tg := 11) (by kernel_rfl) (congrArg Value.bool a0) (fun w' hw' => y_load rfl ((box_load Ag47 Sz47 hb1.1 [(.int .i64 b1.1), (.slice va1x1 vn1x1 vc1x1), (.slice va1x2 vn1x2 vc1x2), (.slice va1x3 vn1x3 vc1x3)] [(.slice va1x4 vn1x4 vc1x4)] [(.int .i64 b1.2.2.2.2.2.1), (.int .i64 b1.2.2.2.2.2.2)] rfl rfl (fun _ => rfl)) w' hw')) hS ?_
  refine x_py 12 (.int .i64 f) rfl (by kernel_rfl) (tg := 11) (by kernel_rfl) (congrArg Value.bool a0) (fun _ => y_move rfl) (fun _ => hS) ?_
  obtain ⟨x11, b6, hs⟩ := bind_some hs
  obtain ⟨b7, b8, b9, a6⟩ := rs_idx Sl47 Sz37 hl1x4 b6
  refine x_py 13 (.pointer (some ⟨b7, b8, none⟩)) rfl (by kernel_rfl) (tg := 11) (by kernel_rfl) (congrArg Value.bool a0) (fun _ => b9 _ _ _ _ _ _ _ _ _ rfl rfl) (fun _ => hS) ?_
  obtain ⟨d0, c0, a4⟩ := at_load Ag37 Sz37 (fun _ => rfl) a6
  obtain ⟨c1, c2, c3, rfl⟩ := rs_sl a4
  refine x_ly 14 (.slice c1 c2 c3) rfl (by kernel_rfl) (tg := 11) (by kernel_rfl) (congrArg Value.bool a0) (fun w' hw' => y_load rfl (c0 w' hw')) hS ?_
  refine x_ly 15 (.pointer (some ⟨vg1, 0, none⟩)) rfl (by kernel_rfl) (tg := 11) (by kernel_rfl) (congrArg Value.bool a0) (fun w' hw' => y_load rfl ((box_load Ag52 Sz52 hb0.1 [] [(.pointer (some ⟨vg1, 0, none⟩))] [] rfl rfl (fun _ => rfl)) w' hw')) hS ?_
  refine x_py 16 (.pointer (some ⟨vg1, 0, none⟩)) rfl (by kernel_rfl) (tg := 11) (by kernel_rfl) (congrArg Value.bool a0) (fun _ => y_nilc rfl) (fun _ => hS) ?_
  refine x_py 17 (.pointer (some ⟨vg1, 0, none⟩)) rfl (by kernel_rfl) (tg := 11) (by kernel_rfl) (congrArg Value.bool a0) (fun _ => y_faddr rfl Fa58x0) (fun _ => hS) ?_
  refine x_ly 18 (.int .i64 b1.1) rfl (by kernel_rfl) (tg := 11) (by kernel_rfl) (congrArg Value.bool a0) (fun w' hw' => y_load rfl ((box_load Ag3 Sz3 hb1.1 [] [(.int .i64 b1.1)] [(.slice va1x1 vn1x1 vc1x1), (.slice va1x2 vn1x2 vc1x2), (.slice va1x3 vn1x3 vc1x3), (.slice va1x4 vn1x4 vc1x4), (.int .i64 b1.2.2.2.2.2.1), (.int .i64 b1.2.2.2.2.2.2)] rfl rfl (fun _ => rfl)) w' hw')) hS ?_
  refine x_one (i := 19) (by kernel_rfl) ?_
  obtain ⟨r16, c4, hs⟩ := bind_some hs
  refine xk_cally (b := false) rfl (tg := 11) (by kernel_rfl) (congrArg Value.bool a0) Bd89 rfl (c_impl_seconds (M := M) b1.1  hO.fut c4) rfl (by rintro _ _ _ ⟨c5, c6, c7, a8, rfl, a2, a7, a9⟩; exact hS.ext a2) ?_
  rintro _ d1 ⟨c5, c6, c7, a8, rfl, a2, a7, a9⟩
  have hb0 := hb0.ext a2
  have hl1x1 := hl1x1.ext a2
  have hl1x2 := hl1x2.ext a2
  have hl1x3 := hl1x3.ext a2
  have hl1x4 := hl1x4.ext a2
  have hb1 := hb1.ext a2
  have a4 := a4.ext a2
  have a5 := at_ext a5 a2
  have a6 := at_ext a6 a2
  have hC := hC.ext a2
  have hO := Own.join0 hO a2 a9
  have hO := hO.perm (R := a8 ++ ([])) (by simp)
  have hS := hS.ext a2
  refine x_one (i := 20) (by kernel_rfl) ?_
  obtain ⟨r19, c8, hs⟩ := bind_some hs
  refine xk_cally (b := false) rfl (tg := 11) (by kernel_rfl) (congrArg Value.bool a0) Bd45 rfl (c_impl_sameList (M := (Less M a8)) x11 r16 (a4.sub Less.sub) (((Frz.os Frz.int)).val a7 Less.sub Less.not) hO.less.fut c8) rfl (by rintro _ _ _ ⟨rfl, a1⟩; exact hS.ext a1) ?_
  rintro _ d2 ⟨rfl, a1⟩
  have hb0 := hb0.ext a1
  have hl1x1 := hl1x1.ext a1
  have hl1x2 := hl1x2.ext a1
  have hl1x3 := hl1x3.ext a1
  have hl1x4 := hl1x4.ext a1
  have hb1 := hb1.ext a1
  have a4 := a4.ext a1
  have a7 := a7.ext a1
  have a5 := at_ext a5 a1
  have a6 := at_ext a6 a1
  have hC := hC.ext a1
  have hO := hO.ext a1
  have hS := hS.ext a1
  refine x_p 21 (.bool r19) rfl (by kernel_rfl)  (fun _ => y_pick_t (congrArg Value.bool a0) rfl) (fun _ => hS) ?_
  refine x_p 22 (.bool r19) rfl (by kernel_rfl)  (fun _ => y_assign rfl) (fun _ => hS) ?_
  refine x_end (by kernel_rfl) ?_
  clear hS
  refine wp_ret ?_
  cases hs
  exact ⟨_, fr_ovl 26 ⟨rfl, trivial⟩, hC⟩
 refine x_pn 8 rfl (by kernel_rfl) (tg := 11) (by kernel_rfl) (congrArg Value.bool a0) (fun _ => hS) ?_
 refine x_pn 9 rfl (by kernel_rfl) (tg := 11) (by kernel_rfl) (congrArg Value.bool a0) (fun _ => hS) ?_
 refine x_pn 10 rfl (by kernel_rfl) (tg := 11) (by kernel_rfl) (congrArg Value.bool a0) (fun _ => hS) ?_
 refine x_pn 11 rfl (by kernel_rfl) (tg := 11) (by kernel_rfl) (congrArg Value.bool a0) (fun _ => hS) ?_
 refine x_pn 12 rfl (by kernel_rfl) (tg := 11) (by kernel_rfl) (congrArg Value.bool a0) (fun _ => hS) ?_
 refine x_pn 13 rfl (by kernel_rfl) (tg := 11) (by kernel_rfl) (congrArg Value.bool a0) (fun _ => hS) ?_
 refine x_pn 14 rfl (by kernel_rfl) (tg := 11) (by kernel_rfl) (congrArg Value.bool a0) (fun _ => hS) ?_
 refine x_pn 15 rfl (by kernel_rfl) (tg := 11) (by kernel_rfl) (congrArg Value.bool a0) (fun _ => hS) ?_
 refine x_pn 16 rfl (by kernel_rfl) (tg := 11) (by kernel_rfl) (congrArg Value.bool a0) (fun _ => hS) ?_
 refine x_pn 17 rfl (by kernel_rfl) (tg := 11) (by kernel_rfl) (congrArg Value.bool a0) (fun _ => hS) ?_
 refine x_pn 18 rfl (by kernel_rfl) (tg := 11) (by kernel_rfl) (congrArg Value.bool a0) (fun _ => hS) ?_
 refine x_pn 19 rfl (by kernel_rfl) (tg := 11) (by kernel_rfl) (congrArg Value.bool a0) (fun _ => hS) ?_
 refine x_pn 20 rfl (by kernel_rfl) (tg := 11) (by kernel_rfl) (congrArg Value.bool a0) (fun _ => hS) ?_
 refine x_p 21 (.bool false) rfl (by kernel_rfl)  (fun _ => y_pick_f (congrArg Value.bool a0) rfl) (fun _ => hS) ?_
 refine x_p 22 (.bool false) rfl (by kernel_rfl)  (fun _ => y_assign rfl) (fun _ => hS) ?_
 refine x_end (by kernel_rfl) ?_
 clear hS
 refine wp_ret ?_
 cases hs
 exact ⟨_, fr_ovl 26 ⟨rfl, trivial⟩, hC⟩

theorem Bd101 : Bodied Try.prog 101 := bodied Try.func101 (by kernel_rfl) rfl

theorem Fa105x3 : ∀ (a : Addr) (w : World), (Instr.fieldAt 105 (.pointer (some a)) 3).run Try.prog w = .ok (.pointer (some (a.add 3))) w := fun _ _ => by kernel_rfl

theorem Ag73 : AggT Try.prog 73 false := fun _ => by kernel_rfl

theorem Sz73 : SzT Try.prog 73 1 := ⟨_, rfl, rfl⟩

def k_impl_chainer__direct_3__g (M : Nat → Prop) (w0 : World) (r : Bool) (a : Act) (w : World) : Prop :=
  ∃ (σ : Nat → Value) , a = fr 41 (ovl σ [(7, (.bool r))]) ∧ Chg [] w0 w
def s_impl_chainer__direct_3__g (i : Int) (f : Int) (g : Int) (b1 : Int × (List (List Int)) × (List Bool) × (List (List Int)) × (List (List Int)) × Int × Int) : Option (Bool) :=
  (idx b1.2.2.1 f).bind fun x8 =>
  (bif x8 then (idx b1.2.2.1 g).bind fun x11 =>
  (bif x11 then (idx b1.2.2.2.2.1 f).bind fun x14 =>
  (idx b1.2.2.2.1 g).bind fun x18 =>
  (s_impl_sameList x14 x18).bind fun r23 =>
  some r23 else some false) else some false)
set_option maxHeartbeats 4000000 in
theorem c_impl_chainer__direct_3__g {M : Nat → Prop} {w : World} {vg0 : Nat} {vg1 : Nat} {va1x1 : Option Addr} {vn1x1 vc1x1 : Nat} {va1x2 : Option Addr} {vn1x2 vc1x2 : Nat} {va1x3 : Option Addr} {vn1x3 vc1x3 : Nat} {va1x4 : Option Addr} {vn1x4 vc1x4 : Nat} (i : Int) (f : Int) (g : Int) (b1 : Int × (List (List Int)) × (List Bool) × (List (List Int)) × (List (List Int)) × Int × Int) (hb0 : RBox M w vg0 52 [(.pointer (some ⟨vg1, 0, none⟩))]) (hb1 : RBox M w vg1 58 [(.int .i64 b1.1), (.slice va1x1 vn1x1 vc1x1), (.slice va1x2 vn1x2 vc1x2), (.slice va1x3 vn1x3 vc1x3), (.slice va1x4 vn1x4 vc1x4), (.int .i64 b1.2.2.2.2.2.1), (.int .i64 b1.2.2.2.2.2.2)]) (hl1x1 : (RT.rs (RT.rs (RT.int .i64))).val M w (.slice va1x1 vn1x1 vc1x1) b1.2.1 ([])) (hl1x2 : (RT.rs RT.bool).val M w (.slice va1x2 vn1x2 vc1x2) b1.2.2.1 ([])) (hl1x3 : (RT.rs (RT.rs (RT.int .i64))).val M w (.slice va1x3 vn1x3 vc1x3) b1.2.2.2.1 ([])) (hl1x4 : (RT.rs (RT.rs (RT.int .i64))).val M w (.slice va1x4 vn1x4 vc1x4) b1.2.2.2.2.1 ([])) (hM : ∀ g, w.heap.size ≤ g → M g) {r : Bool} (hs : s_impl_chainer__direct_3__g i f g b1 = some r) :
    Gives Try.prog 102 [(.int .i64 i), (.int .i64 f), (.int .i64 g), (.pointer (some ⟨vg0, 0, none⟩))] w (fun v w' => v = (.bool r) ∧ Chg [] w w') := by
 refine calls_fr Try.func102 rfl Try.ntmps102 (Nat.le_of_ble_eq_true rfl) ?_
 have hO := Own.start (N := Nw w []) hM Nw.fut
 have hC := Chg.refl [] w
 unfold s_impl_chainer__direct_3__g at hs
 refine wp_mono (Q := KPost (k_impl_chainer__direct_3__g M w r)) ?_ (fun e a d7 h => ?_)
 rotate_left
 ·cases e
  case ret =>
   obtain ⟨σ, rfl, hrest⟩ := h
   exact ret1x Try.results102 (res_tmp rfl) ⟨rfl, hrest⟩
  all_goals exact (h : False).elim
 refine c_sr ?_
 refine pl_val (.bool false) (y_assign rfl) ?_
 refine c_nil ?_
 refine c_seq ?_
 refine x_start [] Mx rfl ?_
 have a3 := Chg.drew w
 generalize World.drew w = b0 at a3 ⊢
 have hb0 := hb0.ext a3
 have hl1x1 := hl1x1.ext a3
 have hl1x2 := hl1x2.ext a3
 have hl1x3 := hl1x3.ext a3
 have hl1x4 := hl1x4.ext a3
 have hb1 := hb1.ext a3
 have hC := hC.ext a3
 have hO := hO.ext a3
 have hS := Chg.refl [] b0
 refine x_l 0 (.pointer (some ⟨vg1, 0, none⟩)) rfl (by kernel_rfl)  (fun w' hw' => y_load rfl ((box_load Ag52 Sz52 hb0.1 [] [(.pointer (some ⟨vg1, 0, none⟩))] [] rfl rfl (fun _ => rfl)) w' hw')) hS ?_
 refine x_p 1 (.pointer (some ⟨vg1, 0, none⟩)) rfl (by kernel_rfl)  (fun _ => y_nilc rfl) (fun _ => hS) ?_
 refine x_p 2 (.pointer (some ⟨vg1, 2, none⟩)) rfl (by kernel_rfl)  (fun _ => y_faddr rfl Fa58x2) (fun _ => hS) ?_
 refine x_l 3 (.slice va1x2 vn1x2 vc1x2) rfl (by kernel_rfl)  (fun w' hw' => y_load rfl ((box_load Ag56 Sz56 hb1.1 [(.int .i64 b1.1), (.slice va1x1 vn1x1 vc1x1)] [(.slice va1x2 vn1x2 vc1x2)] [(.slice va1x3 vn1x3 vc1x3), (.slice va1x4 vn1x4 vc1x4), (.int .i64 b1.2.2.2.2.2.1), (.int .i64 b1.2.2.2.2.2.2)] rfl rfl (fun _ => rfl)) w' hw')) hS ?_
 refine x_p 4 (.int .i64 f) rfl (by kernel_rfl)  (fun _ => y_move rfl) (fun _ => hS) ?_
 obtain ⟨x8, b2, hs⟩ := bind_some hs
 obtain ⟨b3, b4, b5, a6⟩ := rs_idx Sl56 Sz4 hl1x2 b2
 refine x_p 5 (.pointer (some ⟨b3, b4, none⟩)) rfl (by kernel_rfl)  (fun _ => b5 _ _ _ _ _ _ _ _ _ rfl rfl) (fun _ => hS) ?_
 refine x_l 6 (.bool x8) rfl (by kernel_rfl)  (fun w' hw' => y_load rfl ((at_load_bool Ag4 Sz4 a6) w' hw')) hS ?_
 refine x_p 7 (.bool x8) rfl (by kernel_rfl)  (fun _ => y_move rfl) (fun _ => hS) ?_
 rcases bif_some hs with ⟨a1, hs⟩ | ⟨a1, hs⟩
 ·skip
  refine x_ly 8 (.pointer (some ⟨vg1, 0, none⟩)) rfl (by kernel_rfl) (tg := 15) (by kernel_rfl) (congrArg Value.bool a1) (fun w' hw' => y_load rfl ((box_load Ag52 Sz52 hb0.1 [] [(.pointer (some ⟨vg1, 0, none⟩))] [] rfl rfl (fun _ => rfl)) w' hw')) hS ?_
  refine x_py 9 (.pointer (some ⟨vg1, 0, none⟩)) rfl (by kernel_rfl) (tg := 15) (by kernel_rfl) (congrArg Value.bool a1) (fun _ => y_nilc rfl) (fun _ => hS) ?_
  refine x_py 10 (.pointer (some ⟨vg1, 2, none⟩)) rfl (by kernel_rfl) (tg := 15) (by kernel_rfl) (congrArg Value.bool a1) (fun _ => y_faddr rfl Fa58x2) (fun _ => hS) ?_
  refine x_ly 11 (.slice va1x2 vn1x2 vc1x2) rfl (by kernel_rfl) (tg := 15) (by kernel_rfl) (congrArg Value.bool a1) (fun w' hw' => y_load rfl ((box_load Ag56 Sz56 hb1.1 [(.int .i64 b1.1), (.slice va1x1 vn1x1 vc1x1)] [(.slice va1x2 vn1x2 vc1x2)] [(.slice va1x3 vn1x3 vc1x3), (.slice va1x4 vn1x4 vc1x4), (.int .i64 b1.2.2.2.2.2.1), (.int .i64 b1.2.2.2.2.2.2)] rfl rfl (fun _ => rfl)) w' hw')) hS ?_
  refine x_py 12 (.int .i64 g) rfl (by kernel_rfl) (tg := 15) (by kernel_rfl) (congrArg Value.bool a1) (fun _ => y_move rfl) (fun _ => hS) ?_
  obtain ⟨x11, b6, hs⟩ := bind_some hs
  obtain ⟨b7, b8, b9, a7⟩ := rs_idx Sl56 Sz4 hl1x2 b6
  refine x_py 13 (.pointer (some ⟨b7, b8, none⟩)) rfl (by kernel_rfl) (tg := 15) (by kernel_rfl) (congrArg Value.bool a1) (fun _ => b9 _ _ _ _ _ _ _ _ _ rfl rfl) (fun _ => hS) ?_
  refine x_ly 14 (.bool x11) rfl (by kernel_rfl) (tg := 15) (by kernel_rfl) (congrArg Value.bool a1) (fun w' hw' => y_load rfl ((at_load_bool Ag4 Sz4 a7) w' hw')) hS ?_
  refine x_p 15 (.bool x11) rfl (by kernel_rfl)  (fun _ => y_pick_t (congrArg Value.bool a1) rfl) (fun _ => hS) ?_
  refine x_p 16 (.bool x11) rfl (by kernel_rfl)  (fun _ => y_move rfl) (fun _ => hS) ?_
  rcases bif_some hs with ⟨a0, hs⟩ | ⟨a0, hs⟩
  ·skip
   refine x_ly 17 (.pointer (some ⟨vg1, 0, none⟩)) rfl (by kernel_rfl) (tg := 24) (by kernel_rfl) (congrArg Value.bool a0) (fun w' hw' => y_load rfl ((box_load Ag52 Sz52 hb0.1 [] [(.pointer (some ⟨vg1, 0, none⟩))] [] rfl rfl (fun _ => rfl)) w' hw')) hS ?_
   refine x_py 18 (.pointer (some ⟨vg1, 0, none⟩)) rfl (by kernel_rfl) (tg := 24) (by kernel_rfl) (congrArg Value.bool a0) (fun _ => y_nilc rfl) (fun _ => hS) ?_
   refine x_py 19 (.pointer (some ⟨vg1, 4, none⟩)) rfl (by kernel_rfl) (tg := 24) (by kernel_rfl) (congrArg Value.bool a0) (fun _ => y_faddr rfl Fa58x4) (fun _ => hS) ?_
   refine x_ly 20 (.slice va1x4 vn1x4 vc1x4) rfl (by kernel_rfl) (tg := 24) (by kernel_rfl) (congrArg Value.bool a0) (fun w' hw' => y_load rfl ((box_load Ag47 Sz47 hb1.1 [(.int .i64 b1.1), (.slice va1x1 vn1x1 vc1x1), (.slice va1x2 vn1x2 vc1x2), (.slice va1x3 vn1x3 vc1x3)] [(.slice va1x4 vn1x4 vc1x4)] [(.int .i64 b1.2.2.2.2.2.1), (.int .i64 b1.2.2.2.2.2.2)] rfl rfl (fun _ => rfl)) w' hw')) hS ?_
   refine x_py 21 (.int .i64 f) rfl (by kernel_rfl) (tg := 24) (by kernel_rfl) (congrArg Value.bool a0) (fun _ => y_move rfl) (fun _ => hS) ?_
   obtain ⟨x14, c0, hs⟩ := bind_some hs
   obtain ⟨c1, c2, c3, a8⟩ := rs_idx Sl47 Sz37 hl1x4 c0
   refine x_py 22 (.pointer (some ⟨c1, c2, none⟩)) rfl (by kernel_rfl) (tg := 24) (by kernel_rfl) (congrArg Value.bool a0) (fun _ => c3 _ _ _ _ _ _ _ _ _ rfl rfl) (fun _ => hS) ?_
   obtain ⟨d8, c4, a4⟩ := at_load Ag37 Sz37 (fun _ => rfl) a8
   obtain ⟨c5, c6, c7, rfl⟩ := rs_sl a4
   refine x_ly 23 (.slice c5 c6 c7) rfl (by kernel_rfl) (tg := 24) (by kernel_rfl) (congrArg Value.bool a0) (fun w' hw' => y_load rfl (c4 w' hw')) hS ?_
   refine x_ly 24 (.pointer (some ⟨vg1, 0, none⟩)) rfl (by kernel_rfl) (tg := 24) (by kernel_rfl) (congrArg Value.bool a0) (fun w' hw' => y_load rfl ((box_load Ag52 Sz52 hb0.1 [] [(.pointer (some ⟨vg1, 0, none⟩))] [] rfl rfl (fun _ => rfl)) w' hw')) hS ?_
   refine x_py 25 (.pointer (some ⟨vg1, 0, none⟩)) rfl (by kernel_rfl) (tg := 24) (by kernel_rfl) (congrArg Value.bool a0) (fun _ => y_nilc rfl) (fun _ => hS) ?_
   refine x_py 26 (.pointer (some ⟨vg1, 3, none⟩)) rfl (by kernel_rfl) (tg := 24) (by kernel_rfl) (congrArg Value.bool a0) (fun _ => y_faddr rfl Fa58x3) (fun _ => hS) ?_
   refine x_ly 27 (.slice va1x3 vn1x3 vc1x3) rfl (by kernel_rfl) (tg := 24) (by kernel_rfl) (congrArg Value.bool a0) (fun w' hw' => y_load rfl ((box_load Ag47 Sz47 hb1.1 [(.int .i64 b1.1), (.slice va1x1 vn1x1 vc1x1), (.slice va1x2 vn1x2 vc1x2)] [(.slice va1x3 vn1x3 vc1x3)] [(.slice va1x4 vn1x4 vc1x4), (.int .i64 b1.2.2.2.2.2.1), (.int .i64 b1.2.2.2.2.2.2)] rfl rfl (fun _ => rfl)) w' hw')) hS ?_
   refine x_py 28 (.int .i64 g) rfl (by kernel_rfl) (tg := 24) (by kernel_rfl) (congrArg Value.bool a0) (fun _ => y_move rfl) (fun _ => hS) ?_
   obtain ⟨x18, c8, hs⟩ := bind_some hs
   obtain ⟨c9, d0, d1, a9⟩ := rs_idx Sl47 Sz37 hl1x3 c8
   refine x_py 29 (.pointer (some ⟨c9, d0, none⟩)) rfl (by kernel_rfl) (tg := 24) (by kernel_rfl) (congrArg Value.bool a0) (fun _ => d1 _ _ _ _ _ _ _ _ _ rfl rfl) (fun _ => hS) ?_
   obtain ⟨d9, d2, a5⟩ := at_load Ag37 Sz37 (fun _ => rfl) a9
   obtain ⟨d3, d4, d5, rfl⟩ := rs_sl a5
   refine x_ly 30 (.slice d3 d4 d5) rfl (by kernel_rfl) (tg := 24) (by kernel_rfl) (congrArg Value.bool a0) (fun w' hw' => y_load rfl (d2 w' hw')) hS ?_
   refine x_one (i := 31) (by kernel_rfl) ?_
   obtain ⟨r23, d6, hs⟩ := bind_some hs
   refine xk_cally (b := false) rfl (tg := 24) (by kernel_rfl) (congrArg Value.bool a0) Bd45 rfl (c_impl_sameList (M := M) x14 x18 a4 a5 hO.fut d6) rfl (by rintro _ _ _ ⟨rfl, a2⟩; exact hS.ext a2) ?_
   rintro _ e0 ⟨rfl, a2⟩
   have hb0 := hb0.ext a2
   have hl1x1 := hl1x1.ext a2
   have hl1x2 := hl1x2.ext a2
   have hl1x3 := hl1x3.ext a2
   have hl1x4 := hl1x4.ext a2
   have hb1 := hb1.ext a2
   have a4 := a4.ext a2
   have a5 := a5.ext a2
   have a6 := at_ext a6 a2
   have a7 := at_ext a7 a2
   have a8 := at_ext a8 a2
   have a9 := at_ext a9 a2
   have hC := hC.ext a2
   have hO := hO.ext a2
   have hS := hS.ext a2
   refine x_p 32 (.bool r23) rfl (by kernel_rfl)  (fun _ => y_pick_t (congrArg Value.bool a0) rfl) (fun _ => hS) ?_
   refine x_p 33 (.bool r23) rfl (by kernel_rfl)  (fun _ => y_assign rfl) (fun _ => hS) ?_
   refine x_end (by kernel_rfl) ?_
   clear hS
   refine wp_ret ?_
   cases hs
   exact ⟨_, fr_ovl 41 ⟨rfl, trivial⟩, hC⟩
  refine x_pn 17 rfl (by kernel_rfl) (tg := 24) (by kernel_rfl) (congrArg Value.bool a0) (fun _ => hS) ?_
  refine x_pn 18 rfl (by kernel_rfl) (tg := 24) (by kernel_rfl) (congrArg Value.bool a0) (fun _ => hS) ?_
  refine x_pn 19 rfl (by kernel_rfl) (tg := 24) (by kernel_rfl) (congrArg Value.bool a0) (fun _ => hS) ?_
  refine x_pn 20 rfl (by kernel_rfl) (tg := 24) (by kernel_rfl) (congrArg Value.bool a0) (fun _ => hS) ?_
  refine x_pn 21 rfl (by kernel_rfl) (tg := 24) (by kernel_rfl) (congrArg Value.bool a0) (fun _ => hS) ?_
  refine x_pn 22 rfl (by kernel_rfl) (tg := 24) (by kernel_rfl) (congrArg Value.bool a0) (fun _ => hS) ?_
  refine x_pn 23 rfl (by kernel_rfl) (tg := 24) (by kernel_rfl) (congrArg Value.bool a0) (fun _ => hS) ?_
  refine x_pn 24 rfl (by kernel_rfl) (tg := 24) (by kernel_rfl) (congrArg Value.bool a0) (fun _ => hS) ?_
  refine x_pn 25 rfl (by kernel_rfl) (tg := 24) (by kernel_rfl) (congrArg Value.bool a0) (fun _ => hS) ?_
  refine x_pn 26 rfl (by kernel_rfl) (tg := 24) (by kernel_rfl) (congrArg Value.bool a0) (fun _ => hS) ?_
  refine x_pn 27 rfl (by kernel_rfl) (tg := 24) (by kernel_rfl) (congrArg Value.bool a0) (fun _ => hS) ?_
  refine x_pn 28 rfl (by kernel_rfl) (tg := 24) (by kernel_rfl) (congrArg Value.bool a0) (fun _ => hS) ?_
  refine x_pn 29 rfl (by kernel_rfl) (tg := 24) (by kernel_rfl) (congrArg Value.bool a0) (fun _ => hS) ?_
  refine x_pn 30 rfl (by kernel_rfl) (tg := 24) (by kernel_rfl) (congrArg Value.bool a0) (fun _ => hS) ?_
  refine x_pn 31 rfl (by kernel_rfl) (tg := 24) (by kernel_rfl) (congrArg Value.bool a0) (fun _ => hS) ?_
  refine x_p 32 (.bool false) rfl (by kernel_rfl)  (fun _ => y_pick_f (congrArg Value.bool a0) rfl) (fun _ => hS) ?_
  refine x_p 33 (.bool false) rfl (by kernel_rfl)  (fun _ => y_assign rfl) (fun _ => hS) ?_
  refine x_end (by kernel_rfl) ?_
  clear hS
  refine wp_ret ?_
  cases hs
  exact ⟨_, fr_ovl 41 ⟨rfl, trivial⟩, hC⟩
 refine x_pn 8 rfl (by kernel_rfl) (tg := 15) (by kernel_rfl) (congrArg Value.bool a1) (fun _ => hS) ?_
 refine x_pn 9 rfl (by kernel_rfl) (tg := 15) (by kernel_rfl) (congrArg Value.bool a1) (fun _ => hS) ?_
 refine x_pn 10 rfl (by kernel_rfl) (tg := 15) (by kernel_rfl) (congrArg Value.bool a1) (fun _ => hS) ?_
 refine x_pn 11 rfl (by kernel_rfl) (tg := 15) (by kernel_rfl) (congrArg Value.bool a1) (fun _ => hS) ?_
 refine x_pn 12 rfl (by kernel_rfl) (tg := 15) (by kernel_rfl) (congrArg Value.bool a1) (fun _ => hS) ?_
 refine x_pn 13 rfl (by kernel_rfl) (tg := 15) (by kernel_rfl) (congrArg Value.bool a1) (fun _ => hS) ?_
 refine x_pn 14 rfl (by kernel_rfl) (tg := 15) (by kernel_rfl) (congrArg Value.bool a1) (fun _ => hS) ?_
 refine x_p 15 (.bool false) rfl (by kernel_rfl)  (fun _ => y_pick_f (congrArg Value.bool a1) rfl) (fun _ => hS) ?_
 refine x_p 16 (.bool false) rfl (by kernel_rfl)  (fun _ => y_move rfl) (fun _ => hS) ?_
 refine x_pn 17 rfl (by kernel_rfl) (tg := 24) (by kernel_rfl) (by rfl) (fun _ => hS) ?_
 refine x_pn 18 rfl (by kernel_rfl) (tg := 24) (by kernel_rfl) (by rfl) (fun _ => hS) ?_
 refine x_pn 19 rfl (by kernel_rfl) (tg := 24) (by kernel_rfl) (by rfl) (fun _ => hS) ?_
 refine x_pn 20 rfl (by kernel_rfl) (tg := 24) (by kernel_rfl) (by rfl) (fun _ => hS) ?_
 refine x_pn 21 rfl (by kernel_rfl) (tg := 24) (by kernel_rfl) (by rfl) (fun _ => hS) ?_
 refine x_pn 22 rfl (by kernel_rfl) (tg := 24) (by kernel_rfl) (by rfl) (fun _ => hS) ?_
 refine x_pn 23 rfl (by kernel_rfl) (tg := 24) (by kernel_rfl) (by rfl) (fun _ => hS) ?_
 refine x_pn 24 rfl (by kernel_rfl) (tg := 24) (by kernel_rfl) (by rfl) (fun _ => hS) ?_
 refine x_pn 25 rfl (by kernel_rfl) (tg := 24) (by kernel_rfl) (by rfl) (fun _ => hS) ?_
 refine x_pn 26 rfl (by kernel_rfl) (tg := 24) (by kernel_rfl) (by rfl) (fun _ => hS) ?_
 refine x_pn 27 rfl (by kernel_rfl) (tg := 24) (by kernel_rfl) (by rfl) (fun _ => hS) ?_
 refine x_pn 28 rfl (by kernel_rfl) (tg := 24) (by kernel_rfl) (by rfl) (fun _ => hS) ?_
 refine x_pn 29 rfl (by kernel_rfl) (tg := 24) (by kernel_rfl) (by rfl) (fun _ => hS) ?_
 refine x_pn 30 rfl (by kernel_rfl) (tg := 24) (by kernel_rfl) (by rfl) (fun _ => hS) ?_
 refine x_pn 31 rfl (by kernel_rfl) (tg := 24) (by kernel_rfl) (by rfl) (fun _ => hS) ?_
 refine x_p 32 (.bool false) rfl (by kernel_rfl)  (fun _ => y_pick_f (by rfl) rfl) (fun _ => hS) ?_
 refine x_p 33 (.bool false) rfl (by kernel_rfl)  (fun _ => y_assign rfl) (fun _ => hS) ?_
 refine x_end (by kernel_rfl) ?_
 clear hS
 refine wp_ret ?_
 cases hs
 exact ⟨_, fr_ovl 41 ⟨rfl, trivial⟩, hC⟩

theorem Bd102 : Bodied Try.prog 102 := bodied Try.func102 (by kernel_rfl) rfl

theorem Fa105x1 : ∀ (a : Addr) (w : World), (Instr.fieldAt 105 (.pointer (some a)) 1).run Try.prog w = .ok (.pointer (some (a.add 1))) w := fun _ _ => by kernel_rfl

def k_impl_chainer__direct_1__g (M : Nat → Prop) (w0 : World) (r : Bool) (a : Act) (w : World) : Prop :=
  ∃ (σ : Nat → Value) , a = fr 26 (ovl σ [(3, (.bool r))]) ∧ Chg [] w0 w
def s_impl_chainer__direct_1__g (f : Int) (b1 : Int × (List (List Int)) × (List Bool) × (List (List Int)) × (List (List Int)) × Int × Int) : Option (Bool) :=
  (idx b1.2.2.1 f).bind fun x8 =>
  (bif x8 then (idx b1.2.2.2.1 f).bind fun x11 =>
  (s_impl_firsts b1.1).bind fun r16 =>
  (s_impl_sameList x11 r16).bind fun r19 =>
  some r19 else some false)
set_option maxHeartbeats 4000000 in
theorem c_impl_chainer__direct_1__g {M : Nat → Prop} {w : World} {vg0 : Nat} {vg1 : Nat} {va1x1 : Option Addr} {vn1x1 vc1x1 : Nat} {va1x2 : Option Addr} {vn1x2 vc1x2 : Nat} {va1x3 : Option Addr} {vn1x3 vc1x3 : Nat} {va1x4 : Option Addr} {vn1x4 vc1x4 : Nat} (f : Int) (b1 : Int × (List (List Int)) × (List Bool) × (List (List Int)) × (List (List Int)) × Int × Int) (hb0 : RBox M w vg0 52 [(.pointer (some ⟨vg1, 0, none⟩))]) (hb1 : RBox M w vg1 58 [(.int .i64 b1.1), (.slice va1x1 vn1x1 vc1x1), (.slice va1x2 vn1x2 vc1x2), (.slice va1x3 vn1x3 vc1x3), (.slice va1x4 vn1x4 vc1x4), (.int .i64 b1.2.2.2.2.2.1), (.int .i64 b1.2.2.2.2.2.2)]) (hl1x1 : (RT.rs (RT.rs (RT.int .i64))).val M w (.slice va1x1 vn1x1 vc1x1) b1.2.1 ([])) (hl1x2 : (RT.rs RT.bool).val M w (.slice va1x2 vn1x2 vc1x2) b1.2.2.1 ([])) (hl1x3 : (RT.rs (RT.rs (RT.int .i64))).val M w (.slice va1x3 vn1x3 vc1x3) b1.2.2.2.1 ([])) (hl1x4 : (RT.rs (RT.rs (RT.int .i64))).val M w (.slice va1x4 vn1x4 vc1x4) b1.2.2.2.2.1 ([])) (hM : ∀ g, w.heap.size ≤ g → M g) {r : Bool} (hs : s_impl_chainer__direct_1__g f b1 = some r) :
    Gives Try.prog 100 [(.int .i64 f), (.pointer (some ⟨vg0, 0, none⟩))] w (fun v w' => v = (.bool r) ∧ Chg [] w w') := by
 refine calls_fr Try.func100 rfl Try.ntmps100 (Nat.le_of_ble_eq_true rfl) ?_
 have hO := Own.start (N := Nw w []) hM Nw.fut
 have hC := Chg.refl [] w
 unfold s_impl_chainer__direct_1__g at hs
 refine wp_mono (Q := KPost (k_impl_chainer__direct_1__g M w r)) ?_ (fun e a c9 h => ?_)
 rotate_left
 ·cases e
  case ret =>
   obtain ⟨σ, rfl, hrest⟩ := h
   exact ret1x Try.results100 (res_tmp rfl) ⟨rfl, hrest⟩
  all_goals exact (h : False).elim
 refine c_sr ?_
 refine pl_val (.bool false) (y_assign rfl) ?_
 refine c_nil ?_
 refine c_seq ?_
 refine x_start [] Mx rfl ?_
 have a3 := Chg.drew w
 generalize World.drew w = b0 at a3 ⊢
 have hb0 := hb0.ext a3
 have hl1x1 := hl1x1.ext a3
 have hl1x2 := hl1x2.ext a3
 have hl1x3 := hl1x3.ext a3
 have hl1x4 := hl1x4.ext a3
 have hb1 := hb1.ext a3
 have hC := hC.ext a3
 have hO := hO.ext a3
 have hS := Chg.refl [] b0
 refine x_l 0 (.pointer (some ⟨vg1, 0, none⟩)) rfl (by kernel_rfl)  (fun w' hw' => y_load rfl ((box_load Ag52 Sz52 hb0.1 [] [(.pointer (some ⟨vg1, 0, none⟩))] [] rfl rfl (fun _ => rfl)) w' hw')) hS ?_
 refine x_p 1 (.pointer (some ⟨vg1, 0, none⟩)) rfl (by kernel_rfl)  (fun _ => y_nilc rfl) (fun _ => hS) ?_
 refine x_p 2 (.pointer (some ⟨vg1, 2, none⟩)) rfl (by kernel_rfl)  (fun _ => y_faddr rfl Fa58x2) (fun _ => hS) ?_
 refine x_l 3 (.slice va1x2 vn1x2 vc1x2) rfl (by kernel_rfl)  (fun w' hw' => y_load rfl ((box_load Ag56 Sz56 hb1.1 [(.int .i64 b1.1), (.slice va1x1 vn1x1 vc1x1)] [(.slice va1x2 vn1x2 vc1x2)] [(.slice va1x3 vn1x3 vc1x3), (.slice va1x4 vn1x4 vc1x4), (.int .i64 b1.2.2.2.2.2.1), (.int .i64 b1.2.2.2.2.2.2)] rfl rfl (fun _ => rfl)) w' hw')) hS ?_
 refine x_p 4 (.int .i64 f) rfl (by kernel_rfl)  (fun _ => y_move rfl) (fun _ => hS) ?_
 obtain ⟨x8, b2, hs⟩ := bind_some hs
 obtain ⟨b3, b4, b5, a5⟩ := rs_idx Sl56 Sz4 hl1x2 b2
 refine x_p 5 (.pointer (some ⟨b3, b4, none⟩)) rfl (by kernel_rfl)  (fun _ => b5 _ _ _ _ _ _ _ _ _ rfl rfl) (fun _ => hS) ?_
 refine x_l 6 (.bool x8) rfl (by kernel_rfl)  (fun w' hw' => y_load rfl ((at_load_bool Ag4 Sz4 a5) w' hw')) hS ?_
 refine x_p 7 (.bool x8) rfl (by kernel_rfl)  (fun _ => y_move rfl) (fun _ => hS) ?_
 rcases bif_some hs with ⟨a0, hs⟩ | ⟨a0, hs⟩
 ·skip
  refine x_ly 8 (.pointer (some ⟨vg1, 0, none⟩)) rfl (by kernel_rfl) (tg := 11) (by kernel_rfl) (congrArg Value.bool a0) (fun w' hw' => y_load rfl ((box_load Ag52 Sz52 hb0.1 [] [(.pointer (some ⟨vg1, 0, none⟩))] [] rfl rfl (fun _ => rfl)) w' hw')) hS ?_
  refine x_py 9 (.pointer (some ⟨vg1, 0, none⟩)) rfl (by kernel_rfl) (tg := 11) (by kernel_rfl) (congrArg Value.bool a0) (fun _ => y_nilc rfl) (fun _ => hS) ?_
  refine x_py 10 (.pointer (some ⟨vg1, 3, none⟩)) rfl (by kernel_rfl) (tg := 11) (by kernel_rfl) (congrArg Value.bool a0) (fun _ => y_faddr rfl Fa58x3) (fun _ => hS) ?_
  refine x_ly 11 (.slice va1x3 vn1x3 vc1x3) rfl (by kernel_rfl) (tg := 11) (by kernel_rfl) (congrArg Value.bool a0) (fun w' hw' => y_load rfl ((box_load Ag47 Sz47 hb1.1 [(.int .i64 b1.1), (.slice va1x1 vn1x1 vc1x1), (.slice va1x2 vn1x2 vc1x2)] [(.slice va1x3 vn1x3 vc1x3)] [(.slice va1x4 vn1x4 vc1x4), (.int .i64 b1.2.2.2.2.2.1), (.int .i64 b1.2.2.2.2.2.2)] rfl rfl (fun _ => rfl)) w' hw')) hS ?_
  refine x_py 12 (.int .i64 f) rfl (by kernel_rfl) (tg := 11) (by kernel_rfl) (congrArg Value.bool a0) (fun _ => y_move rfl) (fun _ => hS) ?_
  obtain ⟨x11, b6, hs⟩ := bind_some hs
  obtain ⟨b7, b8, b9, a6⟩ := rs_idx Sl47 Sz37 hl1x3 b6
  refine x_py 13 (.pointer (some ⟨b7, b8, none⟩)) rfl (by kernel_rfl) (tg := 11) (by kernel_rfl) (congrArg Value.bool a0) (fun _ => b9 _ _ _ _ _ _ _ _ _ rfl rfl) (fun _ => hS) ?_
  obtain ⟨d0, c0, a4⟩ := at_load Ag37 Sz37 (fun _ => rfl) a6
  obtain ⟨c1, c2, c3, rfl⟩ := rs_sl a4
  refine x_ly 14 (.slice c1 c2 c3) rfl (by kernel_rfl) (tg := 11) (by kernel_rfl) (congrArg Value.bool a0) (fun w' hw' => y_load rfl (c0 w' hw')) hS ?_
  refine x_ly 15 (.pointer (some ⟨vg1, 0, none⟩)) rfl (by kernel_rfl) (tg := 11) (by kernel_rfl) (congrArg Value.bool a0) (fun w' hw' => y_load rfl ((box_load Ag52 Sz52 hb0.1 [] [(.pointer (some ⟨vg1, 0, none⟩))] [] rfl rfl (fun _ => rfl)) w' hw')) hS ?_
  refine x_py 16 (.pointer (some ⟨vg1, 0, none⟩)) rfl (by kernel_rfl) (tg := 11) (by kernel_rfl) (congrArg Value.bool a0) (fun _ => y_nilc rfl) (fun _ => hS) ?_
  refine x_py 17 (.pointer (some ⟨vg1, 0, none⟩)) rfl (by kernel_rfl) (tg := 11) (by kernel_rfl) (congrArg Value.bool a0) (fun _ => y_faddr rfl Fa58x0) (fun _ => hS) ?_
  refine x_ly 18 (.int .i64 b1.1) rfl (by kernel_rfl) (tg := 11) (by kernel_rfl) (congrArg Value.bool a0) (fun w' hw' => y_load rfl ((box_load Ag3 Sz3 hb1.1 [] [(.int .i64 b1.1)] [(.slice va1x1 vn1x1 vc1x1), (.slice va1x2 vn1x2 vc1x2), (.slice va1x3 vn1x3 vc1x3), (.slice va1x4 vn1x4 vc1x4), (.int .i64 b1.2.2.2.2.2.1), (.int .i64 b1.2.2.2.2.2.2)] rfl rfl (fun _ => rfl)) w' hw')) hS ?_
  refine x_one (i := 19) (by kernel_rfl) ?_
  obtain ⟨r16, c4, hs⟩ := bind_some hs
  refine xk_cally (b := false) rfl (tg := 11) (by kernel_rfl) (congrArg Value.bool a0) Bd42 rfl (c_impl_firsts (M := M) b1.1  hO.fut c4) rfl (by rintro _ _ _ ⟨c5, c6, c7, a8, rfl, a2, a7, a9⟩; exact hS.ext a2) ?_
  rintro _ d1 ⟨c5, c6, c7, a8, rfl, a2, a7, a9⟩
  have hb0 := hb0.ext a2
  have hl1x1 := hl1x1.ext a2
  have hl1x2 := hl1x2.ext a2
  have hl1x3 := hl1x3.ext a2
  have hl1x4 := hl1x4.ext a2
  have hb1 := hb1.ext a2
  have a4 := a4.ext a2
  have a5 := at_ext a5 a2
  have a6 := at_ext a6 a2
  have hC := hC.ext a2
  have hO := Own.join0 hO a2 a9
  have hO := hO.perm (R := a8 ++ ([])) (by simp)
  have hS := hS.ext a2
  refine x_one (i := 20) (by kernel_rfl) ?_
  obtain ⟨r19, c8, hs⟩ := bind_some hs
  refine xk_cally (b := false) rfl (tg := 11) (by kernel_rfl) (congrArg Value.bool a0) Bd45 rfl (c_impl_sameList (M := (Less M a8)) x11 r16 (a4.sub Less.sub) (((Frz.os Frz.int)).val a7 Less.sub Less.not) hO.less.fut c8) rfl (by rintro _ _ _ ⟨rfl, a1⟩; exact hS.ext a1) ?_
  rintro _ d2 ⟨rfl, a1⟩
  have hb0 := hb0.ext a1
  have hl1x1 := hl1x1.ext a1
  have hl1x2 := hl1x2.ext a1
  have hl1x3 := hl1x3.ext a1
  have hl1x4 := hl1x4.ext a1
  have hb1 := hb1.ext a1
  have a4 := a4.ext a1
  have a7 := a7.ext a1
  have a5 := at_ext a5 a1
  have a6 := at_ext a6 a1
  have hC := hC.ext a1
  have hO := hO.ext a1
  have hS := hS.ext a1
  refine x_p 21 (.bool r19) rfl (by kernel_rfl)  (fun _ => y_pick_t (congrArg Value.bool a0) rfl) (fun _ => hS) ?_
  refine x_p 22 (.bool r19) rfl (by kernel_rfl)  (fun _ => y_assign rfl) (fun _ => hS) ?_
  refine x_end (by kernel_rfl) ?_
  clear hS
  refine wp_ret ?_
  cases hs
  exact ⟨_, fr_ovl 26 ⟨rfl, trivial⟩, hC⟩
 refine x_pn 8 rfl (by kernel_rfl) (tg := 11) (by kernel_rfl) (congrArg Value.bool a0) (fun _ => hS) ?_
 refine x_pn 9 rfl (by kernel_rfl) (tg := 11) (by kernel_rfl) (congrArg Value.bool a0) (fun _ => hS) ?_
 refine x_pn 10 rfl (by kernel_rfl) (tg := 11) (by kernel_rfl) (congrArg Value.bool a0) (fun _ => hS) ?_
 refine x_pn 11 rfl (by kernel_rfl) (tg := 11) (by kernel_rfl) (congrArg Value.bool a0) (fun _ => hS) ?_
 refine x_pn 12 rfl (by kernel_rfl) (tg := 11) (by kernel_rfl) (congrArg Value.bool a0) (fun _ => hS) ?_
 refine x_pn 13 rfl (by kernel_rfl) (tg := 11) (by kernel_rfl) (congrArg Value.bool a0) (fun _ => hS) ?_
 refine x_pn 14 rfl (by kernel_rfl) (tg := 11) (by kernel_rfl) (congrArg Value.bool a0) (fun _ => hS) ?_
 refine x_pn 15 rfl (by kernel_rfl) (tg := 11) (by kernel_rfl) (congrArg Value.bool a0) (fun _ => hS) ?_
 refine x_pn 16 rfl (by kernel_rfl) (tg := 11) (by kernel_rfl) (congrArg Value.bool a0) (fun _ => hS) ?_
 refine x_pn 17 rfl (by kernel_rfl) (tg := 11) (by kernel_rfl) (congrArg Value.bool a0) (fun _ => hS) ?_
 refine x_pn 18 rfl (by kernel_rfl) (tg := 11) (by kernel_rfl) (congrArg Value.bool a0) (fun _ => hS) ?_
 refine x_pn 19 rfl (by kernel_rfl) (tg := 11) (by kernel_rfl) (congrArg Value.bool a0) (fun _ => hS) ?_
 refine x_pn 20 rfl (by kernel_rfl) (tg := 11) (by kernel_rfl) (congrArg Value.bool a0) (fun _ => hS) ?_
 refine x_p 21 (.bool false) rfl (by kernel_rfl)  (fun _ => y_pick_f (congrArg Value.bool a0) rfl) (fun _ => hS) ?_
 refine x_p 22 (.bool false) rfl (by kernel_rfl)  (fun _ => y_assign rfl) (fun _ => hS) ?_
 refine x_end (by kernel_rfl) ?_
 clear hS
 refine wp_ret ?_
 cases hs
 exact ⟨_, fr_ovl 26 ⟨rfl, trivial⟩, hC⟩

theorem Bd100 : Bodied Try.prog 100 := bodied Try.func100 (by kernel_rfl) rfl

def k_impl_chainer__shortest__chainer__direct_1_chainer__direct_2_chainer__direct_3 (M : Nat → Prop) (w0 : World) (r : (List Int)) (a : Act) (w : World) : Prop :=
  ∃ (σ : Nat → Value) (ra0 : Option Addr) (rn0 rc0 : Nat) (rf0 : List Nat), a = fr 155 (ovl σ [(6, (.slice ra0 rn0 rc0))]) ∧ Chg [] w0 w ∧ (RT.os 3 (RT.int .i64)).val M w (.slice ra0 rn0 rc0) r rf0 ∧ Option.isNone ra0 = List.isEmpty r ∧ Own (Nw w0 []) (fun _ => True) w (rf0 ++ ([]))
def s_impl_chainer__shortest__chainer__direct_1_chainer__direct_2_chainer__direct_3 (l : Int × Unit × Unit × Unit) (most : Int) (b0 : Int × (List (List Int)) × (List Bool) × (List (List Int)) × (List (List Int)) × Int × Int) : Option ((List Int)) :=
  (iter (S := Int) (R := (List Int)) (fun s1861 =>
  (bif (decide (s1861 ≤ most)) then (mks s1861 ([] : List Bool)).bind fun y1869 =>
  (iter (S := Int × (List (List Bool))) (R := (List Int)) (fun s2978 =>
  (bif (decide (0 ≤ s2978.1)) then (mks (b0.2.1.length : Int) (false : Bool)).bind fun y2988 =>
  (idx s2978.2 s2978.1).bind fun x2990 =>
  (forC (S := (List (List Bool))) (R := (List Int)) (fun k3354 s3352 =>
  (bif (s2978.1 == (w64 (s1861 - 1))) then (idx s3352 s2978.1).bind fun x3362 =>
  (s_impl_chainer__direct_2__g k3354 (b0.1, b0.2.1, b0.2.2.1, b0.2.2.2.1, b0.2.2.2.2.1, b0.2.2.2.2.2.1, b0.2.2.2.2.2.2)).bind fun r3367 =>
  (idx x3362 k3354).bind fun x3368 =>
  some (.nx (List.set s3352 (Int.toNat s2978.1) (List.set x3362 (Int.toNat k3354) r3367))) else (iter (S := Int × (List (List Bool))) (R := (List Int)) (fun s3486 =>
  ((bif (decide (s3486.1 < (b0.2.1.length : Int))) then (idx s3486.2 s2978.1).bind fun x3498 =>
  (idx x3498 k3354).bind fun x3502 =>
  some (!x3502) else some false)).bind fun s3494 =>
  (bif s3494 then (idx s3486.2 s2978.1).bind fun x3506 =>
  (idx s3486.2 (w64 (s2978.1 + 1))).bind fun x3508 =>
  (idx x3508 s3486.1).bind fun x3512 =>
  (bif x3512 then (s_impl_chainer__direct_3__g s2978.1 k3354 s3486.1 (b0.1, b0.2.1, b0.2.2.1, b0.2.2.2.1, b0.2.2.2.2.1, b0.2.2.2.2.2.1, b0.2.2.2.2.2.2)).bind fun r3518 =>
  (idx x3506 k3354).bind fun x3519 =>
  some (.nx (w64 (s3486.1 + 1), List.set s3486.2 (Int.toNat s2978.1) (List.set x3506 (Int.toNat k3354) r3518))) else (idx x3506 k3354).bind fun x3531 =>
  some (.nx (w64 (s3486.1 + 1), List.set s3486.2 (Int.toNat s2978.1) (List.set x3506 (Int.toNat k3354) false)))) else some (.br (s3486.1, s3486.2)))) FU (0, s3352)).bind fun o3490 => after o3490 (fun r_ => some (.rt r_)) (fun s3486 =>
  some (.nx s3486.2)))) 0 (b0.2.1.length : Int) (List.set s2978.2 (Int.toNat s2978.1) y2988)).bind fun o3356 => after o3356 (fun r_ => some (.rt r_)) (fun s3352 =>
  some (.nx (w64 (s2978.1 - 1), s3352))) else some (.br (s2978.1, s2978.2)))) FU (w64 (s1861 - 1), y1869)).bind fun o2982 => after o2982 (fun r_ => some (.rt r_)) (fun s2978 =>
  (forC (S := (List Int)) (R := (List Int)) (fun k3628 s3626 =>
  (forC (S := (List Int)) (R := (List Int)) (fun k3675 s3673 =>
  ((idx s2978.2 k3628).bind fun x3687 =>
  (idx x3687 k3675).bind fun x3691 =>
  (bif x3691 then (bif (k3628 == 0) then (s_impl_chainer__direct_1__g k3675 (b0.1, b0.2.1, b0.2.2.1, b0.2.2.2.1, b0.2.2.2.2.1, b0.2.2.2.2.2.1, b0.2.2.2.2.2.2)).bind fun r3696 =>
  (bif r3696 then some true else (bif (decide (0 < k3628)) then (idx s3673 (w64 (k3628 - 1))).bind fun x3699 =>
  (s_impl_chainer__direct_3__g (w64 (k3628 - 1)) x3699 k3675 (b0.1, b0.2.1, b0.2.2.1, b0.2.2.2.1, b0.2.2.2.2.1, b0.2.2.2.2.2.1, b0.2.2.2.2.2.2)).bind fun r3702 =>
  some r3702 else some false)) else (bif (decide (0 < k3628)) then (idx s3673 (w64 (k3628 - 1))).bind fun x3706 =>
  (s_impl_chainer__direct_3__g (w64 (k3628 - 1)) x3706 k3675 (b0.1, b0.2.1, b0.2.2.1, b0.2.2.2.1, b0.2.2.2.2.1, b0.2.2.2.2.2.1, b0.2.2.2.2.2.2)).bind fun r3709 =>
  some r3709 else some false)) else some false)).bind fun s3683 =>
  (bif s3683 then (app s3673 ([k3675])).bind fun y3716 =>
  some (.br y3716) else some (.nx s3673))) 0 (b0.2.1.length : Int) s3626).bind fun o3677 => after o3677 (fun r_ => some (.rt r_)) (fun s3673 =>
  (bif ((s3673.length : Int) == k3628) then some (.br s3673) else some (.nx s3673)))) 0 s1861 ([])).bind fun o3630 => after o3630 (fun r_ => some (.rt r_)) (fun s3626 =>
  (bif ((s3626.length : Int) == s1861) then (nne s3626).bind fun u3720 =>
  some (.rt s3626) else some (.nx (w64 (s1861 + 1)))))) else some (.br s1861))) FU l.1).bind fun o1865 => after o1865 (fun r_ => some r_) (fun s1861 =>
  some ([]))
set_option maxHeartbeats 4000000 in
theorem c_impl_chainer__shortest__chainer__direct_1_chainer__direct_2_chainer__direct_3 {M : Nat → Prop} {w : World} {vg0 : Nat} {vg1 : Nat} {va0x1 : Option Addr} {vn0x1 vc0x1 : Nat} {va0x2 : Option Addr} {vn0x2 vc0x2 : Nat} {va0x3 : Option Addr} {vn0x3 vc0x3 : Nat} {va0x4 : Option Addr} {vn0x4 vc0x4 : Nat} (l : Int × Unit × Unit × Unit) (most : Int) (b0 : Int × (List (List Int)) × (List Bool) × (List (List Int)) × (List (List Int)) × Int × Int) (hb0 : RBox M w vg0 58 [(.int .i64 b0.1), (.slice va0x1 vn0x1 vc0x1), (.slice va0x2 vn0x2 vc0x2), (.slice va0x3 vn0x3 vc0x3), (.slice va0x4 vn0x4 vc0x4), (.int .i64 b0.2.2.2.2.2.1), (.int .i64 b0.2.2.2.2.2.2)]) (hl0x1 : (RT.rs (RT.rs (RT.int .i64))).val M w (.slice va0x1 vn0x1 vc0x1) b0.2.1 ([])) (hl0x2 : (RT.rs RT.bool).val M w (.slice va0x2 vn0x2 vc0x2) b0.2.2.1 ([])) (hl0x3 : (RT.rs (RT.rs (RT.int .i64))).val M w (.slice va0x3 vn0x3 vc0x3) b0.2.2.2.1 ([])) (hl0x4 : (RT.rs (RT.rs (RT.int .i64))).val M w (.slice va0x4 vn0x4 vc0x4) b0.2.2.2.2.1 ([])) (hb1 : RBox M w vg1 52 [(.pointer (some ⟨vg0, 0, none⟩))]) (hM : ∀ g, w.heap.size ≤ g → M g) {r : (List Int)} (hs : s_impl_chainer__shortest__chainer__direct_1_chainer__direct_2_chainer__direct_3 l most b0 = some r) :
    Gives Try.prog 107 [(.pointer (some ⟨vg0, 0, none⟩)), (.agg #[(.int .i64 l.1), (.func (.func 100) #[] #[(.pointer (some ⟨vg1, 0, none⟩))]), (.func (.func 101) #[] #[(.pointer (some ⟨vg1, 0, none⟩))]), (.func (.func 102) #[] #[(.pointer (some ⟨vg1, 0, none⟩))])]), (.int .i64 most)] w (fun v w' => ∃ (ra0 : Option Addr) (rn0 rc0 : Nat) (rf0 : List Nat), v = (.slice ra0 rn0 rc0) ∧ Chg [] w w' ∧ (RT.os 3 (RT.int .i64)).val M w' (.slice ra0 rn0 rc0) r rf0 ∧ Option.isNone ra0 = List.isEmpty r ∧ Own (Nw w []) (fun _ => True) w' (rf0 ++ ([]))) := by
 refine calls_fr Try.func107 rfl Try.ntmps107 (Nat.le_of_ble_eq_true rfl) ?_
 have hO := Own.start (N := Nw w []) hM Nw.fut
 have hC := Chg.refl [] w
 unfold s_impl_chainer__shortest__chainer__direct_1_chainer__direct_2_chainer__direct_3 at hs
 refine wp_mono (Q := KPost (k_impl_chainer__shortest__chainer__direct_1_chainer__direct_2_chainer__direct_3 M w r)) ?_ (fun e a h7 h => ?_)
 rotate_left
 ·cases e
  case ret =>
   obtain ⟨σ, ra0, rn0, rc0, rf0, rfl, hrest⟩ := h
   exact ret1x Try.results107 (res_tmp rfl) ⟨ra0, rn0, rc0, rf0, rfl, hrest⟩
  all_goals exact (h : False).elim
 refine c_sr ?_
 obtain ⟨s5, a1, s6, n9, g2, a0⟩ := new_block w [(.int .i64 l.1), (.func (.func 100) #[] #[(.pointer (some ⟨vg1, 0, none⟩))]), (.func (.func 101) #[] #[(.pointer (some ⟨vg1, 0, none⟩))]), (.func (.func 102) #[] #[(.pointer (some ⟨vg1, 0, none⟩))])] 105
 refine pl_val (w' := s5) (.pointer (some ⟨a1, 0, none⟩)) (y_box rfl (by rw [s6, n9]; kernel_rfl)) ?_
 have hl0x1 := hl0x1.ext g2
 have hl0x2 := hl0x2.ext g2
 have hl0x3 := hl0x3.ext g2
 have hl0x4 := hl0x4.ext g2
 have hb0 := hb0.ext g2
 have hb1 := hb1.ext g2
 have hC := hC.ext g2
 have hO := hO.new1 g2 n9 a0.lt
 refine pl_val (.slice none 0 0) (y_assign rfl) ?_
 refine c_nil ?_
 refine c_sr ?_
 refine pl_val (.pointer (some ⟨vg0, 0, none⟩)) (y_move rfl) ?_
 refine pl_val (.pointer (some ⟨vg0, 0, none⟩)) (y_nilc rfl) ?_
 refine pl_val (.pointer (some ⟨vg0, 1, none⟩)) (y_faddr rfl Fa58x1) ?_
 refine pl_val (.slice va0x1 vn0x1 vc0x1) (y_load rfl ((box_load Ag47 Sz47 hb0.1 [(.int .i64 b0.1)] [(.slice va0x1 vn0x1 vc0x1)] [(.slice va0x2 vn0x2 vc0x2), (.slice va0x3 vn0x3 vc0x3), (.slice va0x4 vn0x4 vc0x4), (.int .i64 b0.2.2.2.2.2.1), (.int .i64 b0.2.2.2.2.2.2)] rfl rfl (fun _ => rfl)) _ (Chg.refl _ _))) ?_
 refine pl_val (.int .i64 (b0.2.1.length : Int)) (y_len' Sl47 (rs_len hl0x1) rfl) ?_
 refine pl_val (.int .i64 (b0.2.1.length : Int)) (y_assign rfl) ?_
 refine c_nil ?_
 refine c_seq ?_
 refine c_sr ?_
 refine pl_val (.pointer (some ⟨a1, 0, none⟩)) (y_faddr rfl Fa105x0) ?_
 refine pl_val (.int .i64 l.1) (y_load rfl ((box_load Ag3 Sz3 a0 [] [(.int .i64 l.1)] [(.func (.func 100) #[] #[(.pointer (some ⟨vg1, 0, none⟩))]), (.func (.func 101) #[] #[(.pointer (some ⟨vg1, 0, none⟩))]), (.func (.func 102) #[] #[(.pointer (some ⟨vg1, 0, none⟩))])] rfl rfl (fun _ => rfl)) _ (Chg.refl _ _))) ?_
 refine pl_val (.int .i64 l.1) (y_assign rfl) ?_
 refine c_nil ?_
 obtain ⟨o1865, s7, hs⟩ := bind_some hs
 refine wp_block ?_
 refine wp_iter (id := 0) (I := fun s1861 a b6 => ∃ (σ : Nat → Value), a = fr 155 (ovl σ [(2, (.int .i64 most)), (4, (.pointer (some ⟨a1, 0, none⟩))), (7, (.int .i64 (b0.2.1.length : Int))), (8, (.int .i64 s1861))]) ∧ Chg [] w b6 ∧ Own (Nw w []) M b6 (([a1]) ++ []) ∧ (RT.rs (RT.rs (RT.int .i64))).val M b6 (.slice va0x1 vn0x1 vc0x1) b0.2.1 ([]) ∧ (RT.rs RT.bool).val M b6 (.slice va0x2 vn0x2 vc0x2) b0.2.2.1 ([]) ∧ (RT.rs (RT.rs (RT.int .i64))).val M b6 (.slice va0x3 vn0x3 vc0x3) b0.2.2.2.1 ([]) ∧ (RT.rs (RT.rs (RT.int .i64))).val M b6 (.slice va0x4 vn0x4 vc0x4) b0.2.2.2.2.1 ([]) ∧ RBox M b6 vg0 58 [(.int .i64 b0.1), (.slice va0x1 vn0x1 vc0x1), (.slice va0x2 vn0x2 vc0x2), (.slice va0x3 vn0x3 vc0x3), (.slice va0x4 vn0x4 vc0x4), (.int .i64 b0.2.2.2.2.2.1), (.int .i64 b0.2.2.2.2.2.2)] ∧ RBox M b6 vg1 52 [(.pointer (some ⟨vg0, 0, none⟩))] ∧ BoxV b6 a1 105 [(.int .i64 l.1), (.func (.func 100) #[] #[(.pointer (some ⟨vg1, 0, none⟩))]), (.func (.func 101) #[] #[(.pointer (some ⟨vg1, 0, none⟩))]), (.func (.func 102) #[] #[(.pointer (some ⟨vg1, 0, none⟩))])]) (J := fun s1861 a b6 => ∃ (σ : Nat → Value), a = fr 155 (ovl σ []) ∧ Chg [] w b6 ∧ Own (Nw w []) M b6 (([a1]) ++ []) ∧ (RT.rs (RT.rs (RT.int .i64))).val M b6 (.slice va0x1 vn0x1 vc0x1) b0.2.1 ([]) ∧ (RT.rs RT.bool).val M b6 (.slice va0x2 vn0x2 vc0x2) b0.2.2.1 ([]) ∧ (RT.rs (RT.rs (RT.int .i64))).val M b6 (.slice va0x3 vn0x3 vc0x3) b0.2.2.2.1 ([]) ∧ (RT.rs (RT.rs (RT.int .i64))).val M b6 (.slice va0x4 vn0x4 vc0x4) b0.2.2.2.2.1 ([]) ∧ RBox M b6 vg0 58 [(.int .i64 b0.1), (.slice va0x1 vn0x1 vc0x1), (.slice va0x2 vn0x2 vc0x2), (.slice va0x3 vn0x3 vc0x3), (.slice va0x4 vn0x4 vc0x4), (.int .i64 b0.2.2.2.2.2.1), (.int .i64 b0.2.2.2.2.2.2)] ∧ RBox M b6 vg1 52 [(.pointer (some ⟨vg0, 0, none⟩))] ∧ BoxV b6 a1 105 [(.int .i64 l.1), (.func (.func 100) #[] #[(.pointer (some ⟨vg1, 0, none⟩))]), (.func (.func 101) #[] #[(.pointer (some ⟨vg1, 0, none⟩))]), (.func (.func 102) #[] #[(.pointer (some ⟨vg1, 0, none⟩))])]) (K := (k_impl_chainer__shortest__chainer__direct_1_chainer__direct_2_chainer__direct_3 M w)) ?_ FU l.1 o1865 _ _ ?_ s7 ?_
 ·rintro s1861 o1865 a b6 ⟨σ, rfl, hC, hO, hl0x1, hl0x2, hl0x3, hl0x4, hb0, hb1, a0⟩ hs
  refine c_seq ?_
  refine c_sr ?_
  refine pl_val (.int .i64 s1861) (y_move rfl) ?_
  refine pl_val (.int .i64 most) (y_move rfl) ?_
  refine pl_val (.bool (decide (s1861 ≤ most))) (y_leq rfl rfl) ?_
  refine c_nil ?_
  rcases bif_some hs with ⟨k5, hs⟩ | ⟨k5, hs⟩
  ·refine c_condT (congrArg Value.bool k5) ?_
   refine wp_skip ?_
   refine c_seq ?_
   refine wp_block ?_
   refine c_sr ?_
   refine pl_val (.int .i64 s1861) (y_move rfl) ?_
   obtain ⟨y1869, s8, hs⟩ := bind_some hs
   obtain ⟨a3, a4, a5, s9, t0, t1, f2, t2, k6⟩ := mk_os (M := M) (w := b6) (r := (RT.os 4 RT.bool)) Rw106 s8 (fun _ _ => (os_unval os_nil))
   refine pl_val (w' := s9) (.slice a3 a4 a5) (y_make rfl rfl t1) ?_
   have hl0x1 := hl0x1.ext f2
   have hl0x2 := hl0x2.ext f2
   have hl0x3 := hl0x3.ext f2
   have hl0x4 := hl0x4.ext f2
   have hb0 := hb0.ext f2
   have hb1 := hb1.ext f2
   have a0 := a0.cn f2
   have hC := hC.ext f2
   have hO := hO.new f2 t2 (os_nodup k6) k6.fpl
   refine pl_val (.slice a3 a4 a5) (y_assign rfl) ?_
   refine c_nil ?_
   refine c_seq ?_
   refine c_sr ?_
   refine pl_val (.int .i64 s1861) (y_move rfl) ?_
   refine pl_val (.int .i64 (w64 (s1861 - 1))) (y_sub rfl rfl) ?_
   refine pl_val (.int .i64 (w64 (s1861 - 1))) (y_assign rfl) ?_
   refine c_nil ?_
   obtain ⟨o2982, t3, hs⟩ := bind_some hs
   refine wp_block ?_
   refine wp_iter (id := 2) (I := fun s2978 a b4 => ∃ (σ : Nat → Value) (h8 : List Nat), a = fr 155 (ovl σ [(2, (.int .i64 most)), (4, (.pointer (some ⟨a1, 0, none⟩))), (7, (.int .i64 (b0.2.1.length : Int))), (8, (.int .i64 s1861)), (9, (.slice a3 a4 a5)), (10, (.int .i64 s2978.1))]) ∧ Chg [] w b4 ∧ Own (Nw w []) M b4 (h8 ++ (([a1]) ++ [])) ∧ (RT.rs (RT.rs (RT.int .i64))).val M b4 (.slice va0x1 vn0x1 vc0x1) b0.2.1 ([]) ∧ (RT.rs RT.bool).val M b4 (.slice va0x2 vn0x2 vc0x2) b0.2.2.1 ([]) ∧ (RT.rs (RT.rs (RT.int .i64))).val M b4 (.slice va0x3 vn0x3 vc0x3) b0.2.2.2.1 ([]) ∧ (RT.rs (RT.rs (RT.int .i64))).val M b4 (.slice va0x4 vn0x4 vc0x4) b0.2.2.2.2.1 ([]) ∧ RBox M b4 vg0 58 [(.int .i64 b0.1), (.slice va0x1 vn0x1 vc0x1), (.slice va0x2 vn0x2 vc0x2), (.slice va0x3 vn0x3 vc0x3), (.slice va0x4 vn0x4 vc0x4), (.int .i64 b0.2.2.2.2.2.1), (.int .i64 b0.2.2.2.2.2.2)] ∧ RBox M b4 vg1 52 [(.pointer (some ⟨vg0, 0, none⟩))] ∧ BoxV b4 a1 105 [(.int .i64 l.1), (.func (.func 100) #[] #[(.pointer (some ⟨vg1, 0, none⟩))]), (.func (.func 101) #[] #[(.pointer (some ⟨vg1, 0, none⟩))]), (.func (.func 102) #[] #[(.pointer (some ⟨vg1, 0, none⟩))])] ∧ (RT.os 56 (RT.os 4 RT.bool)).val M b4 (.slice a3 a4 a5) s2978.2 h8) (J := fun s2978 a b4 => ∃ (σ : Nat → Value) (b8 : List Nat), a = fr 155 (ovl σ [(2, (.int .i64 most)), (4, (.pointer (some ⟨a1, 0, none⟩))), (7, (.int .i64 (b0.2.1.length : Int))), (8, (.int .i64 s1861)), (9, (.slice a3 a4 a5))]) ∧ Chg [] w b4 ∧ Own (Nw w []) M b4 (b8 ++ (([a1]) ++ [])) ∧ (RT.rs (RT.rs (RT.int .i64))).val M b4 (.slice va0x1 vn0x1 vc0x1) b0.2.1 ([]) ∧ (RT.rs RT.bool).val M b4 (.slice va0x2 vn0x2 vc0x2) b0.2.2.1 ([]) ∧ (RT.rs (RT.rs (RT.int .i64))).val M b4 (.slice va0x3 vn0x3 vc0x3) b0.2.2.2.1 ([]) ∧ (RT.rs (RT.rs (RT.int .i64))).val M b4 (.slice va0x4 vn0x4 vc0x4) b0.2.2.2.2.1 ([]) ∧ RBox M b4 vg0 58 [(.int .i64 b0.1), (.slice va0x1 vn0x1 vc0x1), (.slice va0x2 vn0x2 vc0x2), (.slice va0x3 vn0x3 vc0x3), (.slice va0x4 vn0x4 vc0x4), (.int .i64 b0.2.2.2.2.2.1), (.int .i64 b0.2.2.2.2.2.2)] ∧ RBox M b4 vg1 52 [(.pointer (some ⟨vg0, 0, none⟩))] ∧ BoxV b4 a1 105 [(.int .i64 l.1), (.func (.func 100) #[] #[(.pointer (some ⟨vg1, 0, none⟩))]), (.func (.func 101) #[] #[(.pointer (some ⟨vg1, 0, none⟩))]), (.func (.func 102) #[] #[(.pointer (some ⟨vg1, 0, none⟩))])] ∧ (RT.os 56 (RT.os 4 RT.bool)).val M b4 (.slice a3 a4 a5) s2978.2 b8) (K := (k_impl_chainer__shortest__chainer__direct_1_chainer__direct_2_chainer__direct_3 M w)) ?_ FU (w64 (s1861 - 1), y1869) o2982 _ _ ?_ t3 ?_
   ·rintro s2978 o2982 a b4 ⟨σ, h8, rfl, hC, hO, hl0x1, hl0x2, hl0x3, hl0x4, hb0, hb1, a0, h3⟩ hs
    refine c_seq ?_
    refine c_sr ?_
    refine pl_val (.int .i64 s2978.1) (y_move rfl) ?_
    refine pl_val (.bool (decide (0 ≤ s2978.1))) (y_geq rfl rfl) ?_
    refine c_nil ?_
    rcases bif_some hs with ⟨k7, hs⟩ | ⟨k7, hs⟩
    ·refine c_condT (congrArg Value.bool k7) ?_
     refine wp_skip ?_
     refine c_seq ?_
     refine wp_block ?_
     refine c_sr ?_
     refine pl_val (.slice a3 a4 a5) (y_move rfl) ?_
     refine pl_val (.int .i64 s2978.1) (y_move rfl) ?_
     refine pl_val (.int .i64 (b0.2.1.length : Int)) (y_move rfl) ?_
     obtain ⟨y2988, t4, hs⟩ := bind_some hs
     obtain ⟨o0, o1, o2, t5, o3, t6, e4, t7, k8⟩ := mk_os (M := M) (w := b4) (r := RT.bool) Rw56 t4 (fun _ _ => ⟨rfl, rfl⟩)
     refine pl_val (w' := t5) (.slice o0 o1 o2) (y_make rfl rfl t6) ?_
     have hl0x1 := hl0x1.ext e4
     have hl0x2 := hl0x2.ext e4
     have hl0x3 := hl0x3.ext e4
     have hl0x4 := hl0x4.ext e4
     have hb0 := hb0.ext e4
     have hb1 := hb1.ext e4
     have a0 := a0.cn e4
     have h3 := h3.ext e4
     have hC := hC.ext e4
     have hO := hO.new e4 t7 (os_nodup k8) k8.fpl
     obtain ⟨x2990, t8, hs⟩ := bind_some hs
     obtain ⟨o4, J0, o5, t9, u0, u1, u2⟩ := os_idx Sl106 Sz56 h3 t8
     have J1 := own_row (Frz.os Frz.bool) u1 u2
     refine pl_val (.pointer (some ⟨o4, 0 + Int.toNat s2978.1 * 1, none⟩)) (u0 _ _ _ _ _ _ _ _ _ rfl rfl) ?_
     have hO := hO.fr1
     obtain ⟨u3, u4, u5, f3, u6, k9⟩ := os_store (P := Try.prog) (c' := [(.slice o0 o1 o2)]) o5 h3 t9 (fun g hg => hO.inM g (os_block h3 g (by simpa using hg))) (os_unval k8) (hO.drop.perm (R := o3 ++ (([a1]) ++ ([]))) (by simp)).nd (fun g hg hq => hO.apart g hq (by simp only [List.mem_append, List.not_mem_nil, false_or, or_false] at hg ⊢; simp [hg])) (fun _ h => .inl h)
     have g3 : ∀ q ∈ [o4], q ∈ h8 := fun q hq => os_block h3 q (by rw [o5]; exact hq)
     refine pl_skip (w' := u3) (ys_store rfl rfl (u5 _ _ rfl Sz56)) ?_
     have hO := hO.fr1
     have hO := hO.fr1
     have hl0x1 := hl0x1.mt f3 hO g3
     have hl0x2 := hl0x2.mt f3 hO g3
     have hl0x3 := hl0x3.mt f3 hO g3
     have hl0x4 := hl0x4.mt f3 hO g3
     have hb0 := hb0.mut f3 (fun q hq => hO.inM q (g3 q hq))
     have hb1 := hb1.mut f3 (fun q hq => hO.inM q (g3 q hq))
     have a0 := a0.ap f3 hO g3 (mem_r (mem_l (List.mem_singleton.2 rfl)))
     have hC := hC.st f3 hO g3
     have hO := hO.perm (R := h8 ++ (o3 ++ (([a1]) ++ ([])))) (by simp)
     have hO := hO.eat f3 (fun q hq => (u6 q hq).elim .inl (fun h => .inr (.inl h))) (os_nodup k9) k9.fpl
     refine c_nil ?_
     refine c_sr ?_
     refine pl_val (.int .i64 0) (y_assign rfl) ?_
     refine c_nil ?_
     obtain ⟨o3356, u7, hs⟩ := bind_some hs
     refine wp_block ?_
     refine wp_forC (id := 4) (b0.2.1.length : Int) (I := fun k3354 s3352 a b1 => ∃ (σ : Nat → Value) (e5 : List Nat), a = fr 155 (ovl σ [(2, (.int .i64 most)), (4, (.pointer (some ⟨a1, 0, none⟩))), (7, (.int .i64 (b0.2.1.length : Int))), (8, (.int .i64 s1861)), (9, (.slice a3 a4 a5)), (10, (.int .i64 s2978.1)), (11, (.int .i64 k3354))]) ∧ Chg [] w b1 ∧ Own (Nw w []) M b1 (e5 ++ (([a1]) ++ [])) ∧ (RT.rs (RT.rs (RT.int .i64))).val M b1 (.slice va0x1 vn0x1 vc0x1) b0.2.1 ([]) ∧ (RT.rs RT.bool).val M b1 (.slice va0x2 vn0x2 vc0x2) b0.2.2.1 ([]) ∧ (RT.rs (RT.rs (RT.int .i64))).val M b1 (.slice va0x3 vn0x3 vc0x3) b0.2.2.2.1 ([]) ∧ (RT.rs (RT.rs (RT.int .i64))).val M b1 (.slice va0x4 vn0x4 vc0x4) b0.2.2.2.2.1 ([]) ∧ RBox M b1 vg0 58 [(.int .i64 b0.1), (.slice va0x1 vn0x1 vc0x1), (.slice va0x2 vn0x2 vc0x2), (.slice va0x3 vn0x3 vc0x3), (.slice va0x4 vn0x4 vc0x4), (.int .i64 b0.2.2.2.2.2.1), (.int .i64 b0.2.2.2.2.2.2)] ∧ RBox M b1 vg1 52 [(.pointer (some ⟨vg0, 0, none⟩))] ∧ BoxV b1 a1 105 [(.int .i64 l.1), (.func (.func 100) #[] #[(.pointer (some ⟨vg1, 0, none⟩))]), (.func (.func 101) #[] #[(.pointer (some ⟨vg1, 0, none⟩))]), (.func (.func 102) #[] #[(.pointer (some ⟨vg1, 0, none⟩))])] ∧ (RT.os 56 (RT.os 4 RT.bool)).val M b1 (.slice a3 a4 a5) s3352 e5) (J := fun s3352 a b1 => ∃ (σ : Nat → Value) (j8 : List Nat), a = fr 155 (ovl σ [(2, (.int .i64 most)), (4, (.pointer (some ⟨a1, 0, none⟩))), (7, (.int .i64 (b0.2.1.length : Int))), (8, (.int .i64 s1861)), (9, (.slice a3 a4 a5)), (10, (.int .i64 s2978.1))]) ∧ Chg [] w b1 ∧ Own (Nw w []) M b1 (j8 ++ (([a1]) ++ [])) ∧ (RT.rs (RT.rs (RT.int .i64))).val M b1 (.slice va0x1 vn0x1 vc0x1) b0.2.1 ([]) ∧ (RT.rs RT.bool).val M b1 (.slice va0x2 vn0x2 vc0x2) b0.2.2.1 ([]) ∧ (RT.rs (RT.rs (RT.int .i64))).val M b1 (.slice va0x3 vn0x3 vc0x3) b0.2.2.2.1 ([]) ∧ (RT.rs (RT.rs (RT.int .i64))).val M b1 (.slice va0x4 vn0x4 vc0x4) b0.2.2.2.2.1 ([]) ∧ RBox M b1 vg0 58 [(.int .i64 b0.1), (.slice va0x1 vn0x1 vc0x1), (.slice va0x2 vn0x2 vc0x2), (.slice va0x3 vn0x3 vc0x3), (.slice va0x4 vn0x4 vc0x4), (.int .i64 b0.2.2.2.2.2.1), (.int .i64 b0.2.2.2.2.2.2)] ∧ RBox M b1 vg1 52 [(.pointer (some ⟨vg0, 0, none⟩))] ∧ BoxV b1 a1 105 [(.int .i64 l.1), (.func (.func 100) #[] #[(.pointer (some ⟨vg1, 0, none⟩))]), (.func (.func 101) #[] #[(.pointer (some ⟨vg1, 0, none⟩))]), (.func (.func 102) #[] #[(.pointer (some ⟨vg1, 0, none⟩))])] ∧ (RT.os 56 (RT.os 4 RT.bool)).val M b1 (.slice a3 a4 a5) s3352 j8) (K := (k_impl_chainer__shortest__chainer__direct_1_chainer__direct_2_chainer__direct_3 M w)) ?_ ?_ 0 (List.set s2978.2 (Int.toNat s2978.1) y2988) o3356 _ _ ?_ u7 ?_
     ·rintro k3354 s3352 a b1 ⟨σ, e5, rfl, hC, hO, hl0x1, hl0x2, hl0x3, hl0x4, hb0, hb1, a0, d0⟩ hlt
      refine c_seq ?_
      refine c_sr ?_
      refine pl_val (.int .i64 k3354) (y_move rfl) ?_
      refine pl_val (.int .i64 (b0.2.1.length : Int)) (y_move rfl) ?_
      refine pl_val (.bool (decide (k3354 < (b0.2.1.length : Int)))) (y_lss rfl rfl) ?_
      refine c_nil ?_
      refine c_condF (congrArg Value.bool (decide_eq_false hlt)) ?_
      refine wp_exit ?_
      have hO := hO.fr1
      have hO := hO.fr1
      exact ⟨rfl, _, e5, fr_ovl 155 ⟨rfl, rfl, rfl, rfl, rfl, rfl, trivial⟩, hC, hO, hl0x1, hl0x2, hl0x3, hl0x4, hb0, hb1, a0, d0⟩
     ·rintro k3354 s3352 o3356 a b1 ⟨σ, e5, rfl, hC, hO, hl0x1, hl0x2, hl0x3, hl0x4, hb0, hb1, a0, d0⟩ hlt hw hs
      refine c_seq ?_
      refine c_sr ?_
      refine pl_val (.int .i64 k3354) (y_move rfl) ?_
      refine pl_val (.int .i64 (b0.2.1.length : Int)) (y_move rfl) ?_
      refine pl_val (.bool (decide (k3354 < (b0.2.1.length : Int)))) (y_lss rfl rfl) ?_
      refine c_nil ?_
      refine c_condT (congrArg Value.bool (decide_eq_true hlt)) ?_
      refine wp_skip ?_
      refine c_seq ?_
      refine wp_block ?_
      refine c_seq ?_
      refine c_sr ?_
      refine pl_val (.int .i64 s2978.1) (y_move rfl) ?_
      refine pl_val (.int .i64 s1861) (y_move rfl) ?_
      refine pl_val (.int .i64 (w64 (s1861 - 1))) (y_sub rfl rfl) ?_
      refine pl_val (.bool (s2978.1 == (w64 (s1861 - 1)))) (y_eql rfl rfl) ?_
      refine c_nil ?_
      rcases bif_some hs with ⟨l0, hs⟩ | ⟨l0, hs⟩
      ·refine c_condT (congrArg Value.bool l0) ?_
       refine c_seq ?_
       obtain ⟨x3362, j1, hs⟩ := bind_some hs
       obtain ⟨r3367, o6, hs⟩ := bind_some hs
       obtain ⟨x3368, o7, hs⟩ := bind_some hs
       refine c_mid (I := fun a d5 => ∃ (σ : Nat → Value) (j9 : List Nat), a = fr 155 (ovl σ [(2, (.int .i64 most)), (4, (.pointer (some ⟨a1, 0, none⟩))), (7, (.int .i64 (b0.2.1.length : Int))), (8, (.int .i64 s1861)), (9, (.slice a3 a4 a5)), (10, (.int .i64 s2978.1)), (11, (.int .i64 k3354))]) ∧ Chg [] w d5 ∧ Own (Nw w []) M d5 (j9 ++ (([a1]) ++ [])) ∧ (RT.rs (RT.rs (RT.int .i64))).val M d5 (.slice va0x1 vn0x1 vc0x1) b0.2.1 ([]) ∧ (RT.rs RT.bool).val M d5 (.slice va0x2 vn0x2 vc0x2) b0.2.2.1 ([]) ∧ (RT.rs (RT.rs (RT.int .i64))).val M d5 (.slice va0x3 vn0x3 vc0x3) b0.2.2.2.1 ([]) ∧ (RT.rs (RT.rs (RT.int .i64))).val M d5 (.slice va0x4 vn0x4 vc0x4) b0.2.2.2.2.1 ([]) ∧ RBox M d5 vg0 58 [(.int .i64 b0.1), (.slice va0x1 vn0x1 vc0x1), (.slice va0x2 vn0x2 vc0x2), (.slice va0x3 vn0x3 vc0x3), (.slice va0x4 vn0x4 vc0x4), (.int .i64 b0.2.2.2.2.2.1), (.int .i64 b0.2.2.2.2.2.2)] ∧ RBox M d5 vg1 52 [(.pointer (some ⟨vg0, 0, none⟩))] ∧ BoxV d5 a1 105 [(.int .i64 l.1), (.func (.func 100) #[] #[(.pointer (some ⟨vg1, 0, none⟩))]), (.func (.func 101) #[] #[(.pointer (some ⟨vg1, 0, none⟩))]), (.func (.func 102) #[] #[(.pointer (some ⟨vg1, 0, none⟩))])] ∧ (RT.os 56 (RT.os 4 RT.bool)).val M d5 (.slice a3 a4 a5) (List.set s3352 (Int.toNat s2978.1) (List.set x3362 (Int.toNat k3354) r3367)) j9) ?_ ?_
       ·skip
        refine x_start [8, 10] Mx rfl ?_
        have d6 := Chg.drew b1
        generalize World.drew b1 = u9 at d6 ⊢
        have hl0x1 := hl0x1.ext d6
        have hl0x2 := hl0x2.ext d6
        have hl0x3 := hl0x3.ext d6
        have hl0x4 := hl0x4.ext d6
        have hb0 := hb0.ext d6
        have hb1 := hb1.ext d6
        have a0 := a0.cn d6
        have d0 := d0.ext d6
        have hC := hC.ext d6
        have hO := hO.ext d6
        have hS := Chg.refl [] u9
        refine x_p 0 (.slice a3 a4 a5) rfl (by kernel_rfl)  (fun _ => y_move rfl) (fun _ => hS) ?_
        refine x_p 1 (.int .i64 s2978.1) rfl (by kernel_rfl)  (fun _ => y_move rfl) (fun _ => hS) ?_
        obtain ⟨v0, J2, k0, J3, v1, j2, v2⟩ := os_idx Sl106 Sz56 d0 j1
        have h9 := own_row (Frz.os Frz.bool) j2 v2
        refine x_p 2 (.pointer (some ⟨v0, 0 + Int.toNat s2978.1 * 1, none⟩)) rfl (by kernel_rfl)  (fun _ => v1 _ _ _ _ _ _ _ _ _ rfl rfl) (fun _ => hS) ?_
        refine x_p 4 (.int .i64 k3354) rfl (by kernel_rfl)  (fun _ => y_move rfl) (fun _ => hS) ?_
        refine x_p 5 (.pointer (some ⟨a1, 2, none⟩)) rfl (by kernel_rfl)  (fun _ => y_faddr rfl Fa105x2) (fun _ => hS) ?_
        refine x_l 6 (.func (.func 101) #[] #[(.pointer (some ⟨vg1, 0, none⟩))]) rfl (by kernel_rfl)  (fun w' hw' => y_load rfl ((box_load Ag61 Sz61 a0 [(.int .i64 l.1), (.func (.func 100) #[] #[(.pointer (some ⟨vg1, 0, none⟩))])] [(.func (.func 101) #[] #[(.pointer (some ⟨vg1, 0, none⟩))])] [(.func (.func 102) #[] #[(.pointer (some ⟨vg1, 0, none⟩))])] rfl rfl (fun _ => rfl)) w' hw')) hS ?_
        refine x_p 7 (.int .i64 k3354) rfl (by kernel_rfl)  (fun _ => y_move rfl) (fun _ => hS) ?_
        refine x_two (i := 3) (j := 8) (by kernel_rfl) ?_ ?_
        ·skip
         obtain ⟨J4, v3, hrow3381, l1⟩ := at_load1 Ag56 Sz56 rfl rfl h9
         obtain ⟨o8, o9, p0, rfl⟩ := rs_sl l1
         refine xk_val (b := false) (.slice o8 o9 p0) rfl  (y_load rfl (v3 _ (Chg.refl _ _))) rfl (fun _ => hS) ?_
         refine x_one (i := 8) (by kernel_rfl) ?_
         refine xk_callb (b := true) rfl  rfl Bd101 rfl (c_impl_chainer__direct_2__g (M := M) k3354 (b0.1, b0.2.1, b0.2.2.1, b0.2.2.2.1, b0.2.2.2.2.1, b0.2.2.2.2.2.1, b0.2.2.2.2.2.2) (show RBox M _ vg1 52 [(.pointer (some ⟨vg0, 0, none⟩))] from hb1) (show RBox M _ vg0 58 [(.int .i64 b0.1), (.slice va0x1 vn0x1 vc0x1), (.slice va0x2 vn0x2 vc0x2), (.slice va0x3 vn0x3 vc0x3), (.slice va0x4 vn0x4 vc0x4), (.int .i64 b0.2.2.2.2.2.1), (.int .i64 b0.2.2.2.2.2.2)] from hb0) hl0x1 hl0x2 hl0x3 hl0x4 hO.fut o6) rfl (fun h => nomatch h) ?_
         rintro _ v4 ⟨rfl, d1⟩
         have hO := hO.perm (R := [] ++ (e5 ++ (([a1]) ++ ([])))) (by simp)
         have hl0x1 := hl0x1.ext d1
         have hl0x2 := hl0x2.ext d1
         have hl0x3 := hl0x3.ext d1
         have hl0x4 := hl0x4.ext d1
         have hb0 := hb0.ext d1
         have hb1 := hb1.ext d1
         have a0 := a0.cn d1
         have d0 := d0.ext d1
         have l1 := l1.ext d1
         have hrow3381 := hrow3381.cn d1
         have j2 := at_ext j2 d1
         have h9 := at_ext h9 d1
         have hC := hC.ext d1
         have hO := hO.ext d1
         have hO := hO.perm (R := e5 ++ (([a1]) ++ ([]))) (by simp)
         obtain ⟨v5, v6, J5, _, _⟩ := os_put k0 d0 j1 hrow3381 rfl hO.inM
         obtain ⟨v7, J6, v8, v9, w1, J7, J8⟩ := os_idx Sl56 Sz4 (show (RT.os 4 RT.bool).val M v4 (.slice o8 o9 p0) _ v5 from ⟨[_], rfl, v6⟩) o7
         refine x_p 9 (.pointer (some ⟨v7, 0 + Int.toNat k3354 * 1, none⟩)) rfl (by kernel_rfl)  (fun _ => w1 _ _ _ _ _ _ _ _ _ rfl rfl) (fun h => nomatch h) ?_
         refine x_one (i := 10) (by kernel_rfl) ?_
         obtain ⟨w2, w3, w4, f4, g4, w5, l2⟩ := os_store2 (P := Try.prog) (c' := [(.bool r3367)]) k0 d0 j1 hrow3381 v8 v9 hO.inM ⟨rfl, rfl⟩
         refine xk_skip (w' := w2) (b := true) rfl (ys_store rfl rfl (w4 _ _ rfl Sz4)) rfl (fun h => nomatch h) ?_
         have hl0x1 := hl0x1.mt f4 hO g4
         have hl0x2 := hl0x2.mt f4 hO g4
         have hl0x3 := hl0x3.mt f4 hO g4
         have hl0x4 := hl0x4.mt f4 hO g4
         have hb0 := hb0.mut f4 (fun q hq => hO.inM q (g4 q hq))
         have hb1 := hb1.mut f4 (fun q hq => hO.inM q (g4 q hq))
         have a0 := a0.ap f4 hO g4 (mem_l (List.mem_singleton.2 rfl))
         have hC := hC.st f4 hO g4
         have hO := hO.grow f4 w5 (os_nodup l2) l2.fpl
         refine x_end (by kernel_rfl) ?_
         clear hS
         have hO := hO.fr1
         have hO := hO.fr1
         exact ⟨_, w3, fr_ovl 155 ⟨rfl, rfl, rfl, rfl, rfl, rfl, rfl, trivial⟩, hC, hO, hl0x1, hl0x2, hl0x3, hl0x4, hb0, hb1, a0, l2⟩
        ·skip
         refine xk_callb (b := true) rfl  rfl Bd101 rfl (c_impl_chainer__direct_2__g (M := M) k3354 (b0.1, b0.2.1, b0.2.2.1, b0.2.2.2.1, b0.2.2.2.2.1, b0.2.2.2.2.2.1, b0.2.2.2.2.2.2) (show RBox M _ vg1 52 [(.pointer (some ⟨vg0, 0, none⟩))] from hb1) (show RBox M _ vg0 58 [(.int .i64 b0.1), (.slice va0x1 vn0x1 vc0x1), (.slice va0x2 vn0x2 vc0x2), (.slice va0x3 vn0x3 vc0x3), (.slice va0x4 vn0x4 vc0x4), (.int .i64 b0.2.2.2.2.2.1), (.int .i64 b0.2.2.2.2.2.2)] from hb0) hl0x1 hl0x2 hl0x3 hl0x4 hO.fut o6) rfl (fun h => nomatch h) ?_
         rintro _ w6 ⟨rfl, d4⟩
         have hO := hO.perm (R := [] ++ (e5 ++ (([a1]) ++ ([])))) (by simp)
         have hl0x1 := hl0x1.ext d4
         have hl0x2 := hl0x2.ext d4
         have hl0x3 := hl0x3.ext d4
         have hl0x4 := hl0x4.ext d4
         have hb0 := hb0.ext d4
         have hb1 := hb1.ext d4
         have a0 := a0.cn d4
         have d0 := d0.ext d4
         have j2 := at_ext j2 d4
         have h9 := at_ext h9 d4
         have hC := hC.ext d4
         have hO := hO.ext d4
         have hO := hO.perm (R := e5 ++ (([a1]) ++ ([]))) (by simp)
         refine x_one (i := 3) (by kernel_rfl) ?_
         obtain ⟨J9, w7, hrow3390, w8⟩ := at_load1 Ag56 Sz56 rfl rfl h9
         obtain ⟨p1, p2, p3, rfl⟩ := rs_sl w8
         refine xk_val (b := true) (.slice p1 p2 p3) rfl  (y_load rfl (w7 _ (Chg.refl _ _))) rfl (fun h => nomatch h) ?_
         obtain ⟨w9, x0, K0, _, _⟩ := os_put k0 d0 j1 hrow3390 rfl hO.inM
         obtain ⟨x1, K1, x2, x3, x4, K2, K3⟩ := os_idx Sl56 Sz4 (show (RT.os 4 RT.bool).val M w6 (.slice p1 p2 p3) _ w9 from ⟨[_], rfl, x0⟩) o7
         refine x_p 9 (.pointer (some ⟨x1, 0 + Int.toNat k3354 * 1, none⟩)) rfl (by kernel_rfl)  (fun _ => x4 _ _ _ _ _ _ _ _ _ rfl rfl) (fun h => nomatch h) ?_
         refine x_one (i := 10) (by kernel_rfl) ?_
         obtain ⟨x5, x6, x7, f5, g5, x8, l3⟩ := os_store2 (P := Try.prog) (c' := [(.bool r3367)]) k0 d0 j1 hrow3390 x2 x3 hO.inM ⟨rfl, rfl⟩
         refine xk_skip (w' := x5) (b := true) rfl (ys_store rfl rfl (x7 _ _ rfl Sz4)) rfl (fun h => nomatch h) ?_
         have hl0x1 := hl0x1.mt f5 hO g5
         have hl0x2 := hl0x2.mt f5 hO g5
         have hl0x3 := hl0x3.mt f5 hO g5
         have hl0x4 := hl0x4.mt f5 hO g5
         have hb0 := hb0.mut f5 (fun q hq => hO.inM q (g5 q hq))
         have hb1 := hb1.mut f5 (fun q hq => hO.inM q (g5 q hq))
         have a0 := a0.ap f5 hO g5 (mem_l (List.mem_singleton.2 rfl))
         have hC := hC.st f5 hO g5
         have hO := hO.grow f5 x8 (os_nodup l3) l3.fpl
         refine x_end (by kernel_rfl) ?_
         clear hS
         have hO := hO.fr1
         have hO := hO.fr1
         exact ⟨_, x6, fr_ovl 155 ⟨rfl, rfl, rfl, rfl, rfl, rfl, rfl, trivial⟩, hC, hO, hl0x1, hl0x2, hl0x3, hl0x4, hb0, hb1, a0, l3⟩
       rintro d2 d5 ⟨σ, j9, rfl, hC, hO, hl0x1, hl0x2, hl0x3, hl0x4, hb0, hb1, a0, x9⟩
       refine wp_exit ?_
       refine c_region ?_
       refine pl_val (.int .i64 k3354) (y_move rfl) ?_
       refine pl_val (.int .i64 (w64 (k3354 + 1))) (y_add rfl rfl) ?_
       refine pl_val (.int .i64 (w64 (k3354 + 1))) (y_assign rfl) ?_
       refine c_nil ?_
       cases hs
       have hO := hO.fr1
       have hO := hO.fr1
       exact ⟨_, j9, fr_ovl 155 ⟨rfl, rfl, rfl, rfl, rfl, rfl, congrArg (Value.int .i64) hw, trivial⟩, hC, hO, hl0x1, hl0x2, hl0x3, hl0x4, hb0, hb1, a0, x9⟩
      refine c_condF (congrArg Value.bool l0) ?_
      refine wp_skip ?_
      refine c_sr ?_
      refine pl_val (.int .i64 0) (y_assign rfl) ?_
      refine c_nil ?_
      obtain ⟨o3490, y0, hs⟩ := bind_some hs
      refine wp_block ?_
      refine wp_iter (id := 6) (I := fun s3486 a b2 => ∃ (σ : Nat → Value) (g6 : List Nat), a = fr 155 (ovl σ [(2, (.int .i64 most)), (4, (.pointer (some ⟨a1, 0, none⟩))), (7, (.int .i64 (b0.2.1.length : Int))), (8, (.int .i64 s1861)), (9, (.slice a3 a4 a5)), (10, (.int .i64 s2978.1)), (11, (.int .i64 k3354)), (12, (.int .i64 s3486.1))]) ∧ Chg [] w b2 ∧ Own (Nw w []) M b2 (g6 ++ (([a1]) ++ [])) ∧ (RT.rs (RT.rs (RT.int .i64))).val M b2 (.slice va0x1 vn0x1 vc0x1) b0.2.1 ([]) ∧ (RT.rs RT.bool).val M b2 (.slice va0x2 vn0x2 vc0x2) b0.2.2.1 ([]) ∧ (RT.rs (RT.rs (RT.int .i64))).val M b2 (.slice va0x3 vn0x3 vc0x3) b0.2.2.2.1 ([]) ∧ (RT.rs (RT.rs (RT.int .i64))).val M b2 (.slice va0x4 vn0x4 vc0x4) b0.2.2.2.2.1 ([]) ∧ RBox M b2 vg0 58 [(.int .i64 b0.1), (.slice va0x1 vn0x1 vc0x1), (.slice va0x2 vn0x2 vc0x2), (.slice va0x3 vn0x3 vc0x3), (.slice va0x4 vn0x4 vc0x4), (.int .i64 b0.2.2.2.2.2.1), (.int .i64 b0.2.2.2.2.2.2)] ∧ RBox M b2 vg1 52 [(.pointer (some ⟨vg0, 0, none⟩))] ∧ BoxV b2 a1 105 [(.int .i64 l.1), (.func (.func 100) #[] #[(.pointer (some ⟨vg1, 0, none⟩))]), (.func (.func 101) #[] #[(.pointer (some ⟨vg1, 0, none⟩))]), (.func (.func 102) #[] #[(.pointer (some ⟨vg1, 0, none⟩))])] ∧ (RT.os 56 (RT.os 4 RT.bool)).val M b2 (.slice a3 a4 a5) s3486.2 g6) (J := fun s3486 a b2 => ∃ (σ : Nat → Value) (k1 : List Nat), a = fr 155 (ovl σ [(2, (.int .i64 most)), (4, (.pointer (some ⟨a1, 0, none⟩))), (7, (.int .i64 (b0.2.1.length : Int))), (8, (.int .i64 s1861)), (9, (.slice a3 a4 a5)), (10, (.int .i64 s2978.1)), (11, (.int .i64 k3354))]) ∧ Chg [] w b2 ∧ Own (Nw w []) M b2 (k1 ++ (([a1]) ++ [])) ∧ (RT.rs (RT.rs (RT.int .i64))).val M b2 (.slice va0x1 vn0x1 vc0x1) b0.2.1 ([]) ∧ (RT.rs RT.bool).val M b2 (.slice va0x2 vn0x2 vc0x2) b0.2.2.1 ([]) ∧ (RT.rs (RT.rs (RT.int .i64))).val M b2 (.slice va0x3 vn0x3 vc0x3) b0.2.2.2.1 ([]) ∧ (RT.rs (RT.rs (RT.int .i64))).val M b2 (.slice va0x4 vn0x4 vc0x4) b0.2.2.2.2.1 ([]) ∧ RBox M b2 vg0 58 [(.int .i64 b0.1), (.slice va0x1 vn0x1 vc0x1), (.slice va0x2 vn0x2 vc0x2), (.slice va0x3 vn0x3 vc0x3), (.slice va0x4 vn0x4 vc0x4), (.int .i64 b0.2.2.2.2.2.1), (.int .i64 b0.2.2.2.2.2.2)] ∧ RBox M b2 vg1 52 [(.pointer (some ⟨vg0, 0, none⟩))] ∧ BoxV b2 a1 105 [(.int .i64 l.1), (.func (.func 100) #[] #[(.pointer (some ⟨vg1, 0, none⟩))]), (.func (.func 101) #[] #[(.pointer (some ⟨vg1, 0, none⟩))]), (.func (.func 102) #[] #[(.pointer (some ⟨vg1, 0, none⟩))])] ∧ (RT.os 56 (RT.os 4 RT.bool)).val M b2 (.slice a3 a4 a5) s3486.2 k1) (K := (k_impl_chainer__shortest__chainer__direct_1_chainer__direct_2_chainer__direct_3 M w)) ?_ FU (0, s3352) o3490 _ _ ?_ y0 ?_
      ·rintro s3486 o3490 a b2 ⟨σ, g6, rfl, hC, hO, hl0x1, hl0x2, hl0x3, hl0x4, hb0, hb1, a0, b7⟩ hs
       refine c_seq ?_
       refine c_seq ?_
       obtain ⟨s3494, y1, hs⟩ := bind_some hs
       refine c_mid (I := fun a k2 => ∃ (σ : Nat → Value), a = fr 155 (ovl σ [(2, (.int .i64 most)), (4, (.pointer (some ⟨a1, 0, none⟩))), (7, (.int .i64 (b0.2.1.length : Int))), (8, (.int .i64 s1861)), (9, (.slice a3 a4 a5)), (10, (.int .i64 s2978.1)), (11, (.int .i64 k3354)), (12, (.int .i64 s3486.1)), (72, (.bool s3494))]) ∧ Chg [] b2 k2) ?_ ?_
       ·replace hs := y1
        have hMid := Chg.refl [] b2
        refine c_region ?_
        refine pl_val (.int .i64 s3486.1) (y_move rfl) ?_
        refine pl_val (.int .i64 (b0.2.1.length : Int)) (y_move rfl) ?_
        refine pl_val (.bool (decide (s3486.1 < (b0.2.1.length : Int)))) (y_lss rfl rfl) ?_
        refine pl_val (.bool (decide (s3486.1 < (b0.2.1.length : Int)))) (y_move rfl) ?_
        rcases bif_some hs with ⟨b9, hs⟩ | ⟨b9, hs⟩
        ·skip
         refine pl_yes (.slice a3 a4 a5) (tg := 63) (by kernel_rfl) (congrArg Value.bool b9) (y_move rfl) ?_
         refine pl_yes (.int .i64 s2978.1) (tg := 63) (by kernel_rfl) (congrArg Value.bool b9) (y_move rfl) ?_
         obtain ⟨x3498, p4, hs⟩ := bind_some hs
         obtain ⟨y2, K4, y3, K5, y4, y5, y6⟩ := os_idx Sl106 Sz56 b7 p4
         have y7 := own_row (Frz.os Frz.bool) y5 y6
         refine pl_yes (.pointer (some ⟨y2, 0 + Int.toNat s2978.1 * 1, none⟩)) (tg := 63) (by kernel_rfl) (congrArg Value.bool b9) (y4 _ _ _ _ _ _ _ _ _ rfl rfl) ?_
         obtain ⟨K6, y8, hrow3500, y9⟩ := at_load1 Ag56 Sz56 rfl rfl y7
         obtain ⟨p5, p6, p7, rfl⟩ := rs_sl y9
         refine pl_yes (.slice p5 p6 p7) (tg := 63) (by kernel_rfl) (congrArg Value.bool b9) (y_load rfl (y8 _ (Chg.refl _ _))) ?_
         refine pl_yes (.int .i64 k3354) (tg := 63) (by kernel_rfl) (congrArg Value.bool b9) (y_move rfl) ?_
         obtain ⟨x3502, z0, hs⟩ := bind_some hs
         obtain ⟨z1, z2, K7, _, _⟩ := os_put y3 b7 p4 hrow3500 rfl hO.inM
         obtain ⟨z3, K8, K9, L0, z4, z5, L1⟩ := os_idx Sl56 Sz4 (show (RT.os 4 RT.bool).val M b2 (.slice p5 p6 p7) _ z1 from ⟨[_], rfl, z2⟩) z0
         refine pl_yes (.pointer (some ⟨z3, 0 + Int.toNat k3354 * 1, none⟩)) (tg := 63) (by kernel_rfl) (congrArg Value.bool b9) (z4 _ _ _ _ _ _ _ _ _ rfl rfl) ?_
         refine pl_yes (.bool x3502) (tg := 63) (by kernel_rfl) (congrArg Value.bool b9) (y_load rfl ((at_load_bool Ag4 Sz4 z5) _ (Chg.refl _ _))) ?_
         refine pl_yes (.bool (!x3502)) (tg := 63) (by kernel_rfl) (congrArg Value.bool b9) (y_not rfl) ?_
         refine pl_val (.bool (!x3502)) (y_pick_t (congrArg Value.bool b9) rfl) ?_
         refine c_nil ?_
         cases hs
         exact ⟨_, fr_ovl 155 ⟨rfl, rfl, rfl, rfl, rfl, rfl, rfl, rfl, rfl, trivial⟩, hMid⟩
        refine pl_not (tg := 63) (by kernel_rfl) (congrArg Value.bool b9) ?_
        refine pl_not (tg := 63) (by kernel_rfl) (congrArg Value.bool b9) ?_
        refine pl_not (tg := 63) (by kernel_rfl) (congrArg Value.bool b9) ?_
        refine pl_not (tg := 63) (by kernel_rfl) (congrArg Value.bool b9) ?_
        refine pl_not (tg := 63) (by kernel_rfl) (congrArg Value.bool b9) ?_
        refine pl_not (tg := 63) (by kernel_rfl) (congrArg Value.bool b9) ?_
        refine pl_not (tg := 63) (by kernel_rfl) (congrArg Value.bool b9) ?_
        refine pl_not (tg := 63) (by kernel_rfl) (congrArg Value.bool b9) ?_
        refine pl_val (.bool false) (y_pick_f (congrArg Value.bool b9) rfl) ?_
        refine c_nil ?_
        cases hs
        exact ⟨_, fr_ovl 155 ⟨rfl, rfl, rfl, rfl, rfl, rfl, rfl, rfl, rfl, trivial⟩, hMid⟩
       rintro d2 k2 ⟨σ, rfl, e6⟩
       have hl0x1 := hl0x1.ext e6
       have hl0x2 := hl0x2.ext e6
       have hl0x3 := hl0x3.ext e6
       have hl0x4 := hl0x4.ext e6
       have hb0 := hb0.ext e6
       have hb1 := hb1.ext e6
       have a0 := a0.cn e6
       have b7 := b7.ext e6
       have hC := hC.ext e6
       have hO := hO.ext e6
       rcases bif_some hs with ⟨l4, hs⟩ | ⟨l4, hs⟩
       ·refine c_condT (congrArg Value.bool l4) ?_
        refine wp_skip ?_
        refine c_seq ?_
        refine wp_block ?_
        refine x_start [19, 22] Mx rfl ?_
        have d7 := Chg.drew k2
        generalize World.drew k2 = k3 at d7 ⊢
        have hl0x1 := hl0x1.ext d7
        have hl0x2 := hl0x2.ext d7
        have hl0x3 := hl0x3.ext d7
        have hl0x4 := hl0x4.ext d7
        have hb0 := hb0.ext d7
        have hb1 := hb1.ext d7
        have a0 := a0.cn d7
        have b7 := b7.ext d7
        have hC := hC.ext d7
        have hO := hO.ext d7
        have hS := Chg.refl [] k3
        refine x_p 0 (.slice a3 a4 a5) rfl (by kernel_rfl)  (fun _ => y_move rfl) (fun _ => hS) ?_
        refine x_p 1 (.int .i64 s2978.1) rfl (by kernel_rfl)  (fun _ => y_move rfl) (fun _ => hS) ?_
        obtain ⟨x3506, f6, hs⟩ := bind_some hs
        obtain ⟨z6, L2, g7, L3, z7, j3, z8⟩ := os_idx Sl106 Sz56 b7 f6
        have g8 := own_row (Frz.os Frz.bool) j3 z8
        refine x_p 2 (.pointer (some ⟨z6, 0 + Int.toNat s2978.1 * 1, none⟩)) rfl (by kernel_rfl)  (fun _ => z7 _ _ _ _ _ _ _ _ _ rfl rfl) (fun _ => hS) ?_
        refine x_p 4 (.int .i64 k3354) rfl (by kernel_rfl)  (fun _ => y_move rfl) (fun _ => hS) ?_
        refine x_p 5 (.slice a3 a4 a5) rfl (by kernel_rfl)  (fun _ => y_move rfl) (fun _ => hS) ?_
        refine x_p 6 (.int .i64 s2978.1) rfl (by kernel_rfl)  (fun _ => y_move rfl) (fun _ => hS) ?_
        refine x_p 7 (.int .i64 (w64 (s2978.1 + 1))) rfl (by kernel_rfl)  (fun _ => y_add rfl rfl) (fun _ => hS) ?_
        obtain ⟨x3508, p8, hs⟩ := bind_some hs
        obtain ⟨z9, L4, A0, L5, A1, j4, A2⟩ := os_idx Sl106 Sz56 b7 p8
        have j5 := own_row (Frz.os Frz.bool) j4 A2
        refine x_p 8 (.pointer (some ⟨z9, 0 + Int.toNat (w64 (s2978.1 + 1)) * 1, none⟩)) rfl (by kernel_rfl)  (fun _ => A1 _ _ _ _ _ _ _ _ _ rfl rfl) (fun _ => hS) ?_
        obtain ⟨L6, A3, hrow3510, j6⟩ := at_load1 Ag56 Sz56 rfl rfl j5
        obtain ⟨p9, q0, q1, rfl⟩ := rs_sl j6
        refine x_l 9 (.slice p9 q0 q1) rfl (by kernel_rfl)  (fun w' hw' => y_load rfl (A3 w' hw')) hS ?_
        refine x_p 10 (.int .i64 s3486.1) rfl (by kernel_rfl)  (fun _ => y_move rfl) (fun _ => hS) ?_
        obtain ⟨x3512, A4, hs⟩ := bind_some hs
        obtain ⟨A5, A6, L7, _, _⟩ := os_put A0 b7 p8 hrow3510 rfl hO.inM
        obtain ⟨A7, L8, L9, M0, A8, A9, M1⟩ := os_idx Sl56 Sz4 (show (RT.os 4 RT.bool).val M k3 (.slice p9 q0 q1) _ A5 from ⟨[_], rfl, A6⟩) A4
        refine x_p 11 (.pointer (some ⟨A7, 0 + Int.toNat s3486.1 * 1, none⟩)) rfl (by kernel_rfl)  (fun _ => A8 _ _ _ _ _ _ _ _ _ rfl rfl) (fun _ => hS) ?_
        refine x_l 12 (.bool x3512) rfl (by kernel_rfl)  (fun w' hw' => y_load rfl ((at_load_bool Ag4 Sz4 A9) w' hw')) hS ?_
        refine x_p 13 (.bool x3512) rfl (by kernel_rfl)  (fun _ => y_move rfl) (fun _ => hS) ?_
        rcases bif_some hs with ⟨c0, hs⟩ | ⟨c0, hs⟩
        ·skip
         refine x_py 14 (.pointer (some ⟨a1, 3, none⟩)) rfl (by kernel_rfl) (tg := 88) (by kernel_rfl) (congrArg Value.bool c0) (fun _ => y_faddr rfl Fa105x3) (fun _ => hS) ?_
         refine x_ly 15 (.func (.func 102) #[] #[(.pointer (some ⟨vg1, 0, none⟩))]) rfl (by kernel_rfl) (tg := 88) (by kernel_rfl) (congrArg Value.bool c0) (fun w' hw' => y_load rfl ((box_load Ag73 Sz73 a0 [(.int .i64 l.1), (.func (.func 100) #[] #[(.pointer (some ⟨vg1, 0, none⟩))]), (.func (.func 101) #[] #[(.pointer (some ⟨vg1, 0, none⟩))])] [(.func (.func 102) #[] #[(.pointer (some ⟨vg1, 0, none⟩))])] [] rfl rfl (fun _ => rfl)) w' hw')) hS ?_
         refine x_py 16 (.int .i64 s2978.1) rfl (by kernel_rfl) (tg := 88) (by kernel_rfl) (congrArg Value.bool c0) (fun _ => y_move rfl) (fun _ => hS) ?_
         refine x_py 17 (.int .i64 k3354) rfl (by kernel_rfl) (tg := 88) (by kernel_rfl) (congrArg Value.bool c0) (fun _ => y_move rfl) (fun _ => hS) ?_
         refine x_py 18 (.int .i64 s3486.1) rfl (by kernel_rfl) (tg := 88) (by kernel_rfl) (congrArg Value.bool c0) (fun _ => y_move rfl) (fun _ => hS) ?_
         refine x_two (i := 3) (j := 19) (by kernel_rfl) ?_ ?_
         ·skip
          obtain ⟨M2, B0, hrow3515, l5⟩ := at_load1 Ag56 Sz56 rfl rfl g8
          obtain ⟨q2, q3, q4, rfl⟩ := rs_sl l5
          refine xk_val (b := false) (.slice q2 q3 q4) rfl  (y_load rfl (B0 _ (Chg.refl _ _))) rfl (fun _ => hS) ?_
          refine x_one (i := 19) (by kernel_rfl) ?_
          obtain ⟨r3518, l6, hs⟩ := bind_some hs
          refine xk_callby (b := true) rfl (tg := 88) (by kernel_rfl) (congrArg Value.bool c0) rfl Bd102 rfl (c_impl_chainer__direct_3__g (M := M) s2978.1 k3354 s3486.1 (b0.1, b0.2.1, b0.2.2.1, b0.2.2.2.1, b0.2.2.2.2.1, b0.2.2.2.2.2.1, b0.2.2.2.2.2.2) (show RBox M _ vg1 52 [(.pointer (some ⟨vg0, 0, none⟩))] from hb1) (show RBox M _ vg0 58 [(.int .i64 b0.1), (.slice va0x1 vn0x1 vc0x1), (.slice va0x2 vn0x2 vc0x2), (.slice va0x3 vn0x3 vc0x3), (.slice va0x4 vn0x4 vc0x4), (.int .i64 b0.2.2.2.2.2.1), (.int .i64 b0.2.2.2.2.2.2)] from hb0) hl0x1 hl0x2 hl0x3 hl0x4 hO.fut l6) rfl (fun h => nomatch h) ?_
          rintro _ B1 ⟨rfl, c1⟩
          have hO := hO.perm (R := [] ++ (g6 ++ (([a1]) ++ ([])))) (by simp)
          have hl0x1 := hl0x1.ext c1
          have hl0x2 := hl0x2.ext c1
          have hl0x3 := hl0x3.ext c1
          have hl0x4 := hl0x4.ext c1
          have hb0 := hb0.ext c1
          have hb1 := hb1.ext c1
          have a0 := a0.cn c1
          have b7 := b7.ext c1
          have j6 := j6.ext c1
          have hrow3510 := hrow3510.cn c1
          have l5 := l5.ext c1
          have hrow3515 := hrow3515.cn c1
          have j3 := at_ext j3 c1
          have g8 := at_ext g8 c1
          have j4 := at_ext j4 c1
          have j5 := at_ext j5 c1
          have hC := hC.ext c1
          have hO := hO.ext c1
          have hO := hO.perm (R := g6 ++ (([a1]) ++ ([]))) (by simp)
          refine x_p 20 (.bool r3518) rfl (by kernel_rfl)  (fun _ => y_pick_t (congrArg Value.bool c0) rfl) (fun h => nomatch h) ?_
          obtain ⟨x3519, l7, hs⟩ := bind_some hs
          obtain ⟨B2, B3, M3, _, _⟩ := os_put g7 b7 f6 hrow3515 rfl hO.inM
          obtain ⟨B4, M4, B5, B6, B7, M5, M6⟩ := os_idx Sl56 Sz4 (show (RT.os 4 RT.bool).val M B1 (.slice q2 q3 q4) _ B2 from ⟨[_], rfl, B3⟩) l7
          refine x_p 21 (.pointer (some ⟨B4, 0 + Int.toNat k3354 * 1, none⟩)) rfl (by kernel_rfl)  (fun _ => B7 _ _ _ _ _ _ _ _ _ rfl rfl) (fun h => nomatch h) ?_
          refine x_one (i := 22) (by kernel_rfl) ?_
          obtain ⟨B8, B9, C0, f7, g9, C1, l8⟩ := os_store2 (P := Try.prog) (c' := [(.bool r3518)]) g7 b7 f6 hrow3515 B5 B6 hO.inM ⟨rfl, rfl⟩
          refine xk_skip (w' := B8) (b := true) rfl (ys_store rfl rfl (C0 _ _ rfl Sz4)) rfl (fun h => nomatch h) ?_
          have hl0x1 := hl0x1.mt f7 hO g9
          have hl0x2 := hl0x2.mt f7 hO g9
          have hl0x3 := hl0x3.mt f7 hO g9
          have hl0x4 := hl0x4.mt f7 hO g9
          have hb0 := hb0.mut f7 (fun q hq => hO.inM q (g9 q hq))
          have hb1 := hb1.mut f7 (fun q hq => hO.inM q (g9 q hq))
          have a0 := a0.ap f7 hO g9 (mem_l (List.mem_singleton.2 rfl))
          have hC := hC.st f7 hO g9
          have hO := hO.grow f7 C1 (os_nodup l8) l8.fpl
          refine x_end (by kernel_rfl) ?_
          clear hS
          refine c_region ?_
          refine pl_val (.int .i64 s3486.1) (y_move rfl) ?_
          refine pl_val (.int .i64 (w64 (s3486.1 + 1))) (y_add rfl rfl) ?_
          refine pl_val (.int .i64 (w64 (s3486.1 + 1))) (y_assign rfl) ?_
          refine c_nil ?_
          cases hs
          have hO := hO.fr1
          have hO := hO.fr1
          exact ⟨_, B9, fr_ovl 155 ⟨rfl, rfl, rfl, rfl, rfl, rfl, rfl, rfl, trivial⟩, hC, hO, hl0x1, hl0x2, hl0x3, hl0x4, hb0, hb1, a0, l8⟩
         ·skip
          obtain ⟨r3518, l6, hs⟩ := bind_some hs
          refine xk_callby (b := true) rfl (tg := 88) (by kernel_rfl) (congrArg Value.bool c0) rfl Bd102 rfl (c_impl_chainer__direct_3__g (M := M) s2978.1 k3354 s3486.1 (b0.1, b0.2.1, b0.2.2.1, b0.2.2.2.1, b0.2.2.2.2.1, b0.2.2.2.2.2.1, b0.2.2.2.2.2.2) (show RBox M _ vg1 52 [(.pointer (some ⟨vg0, 0, none⟩))] from hb1) (show RBox M _ vg0 58 [(.int .i64 b0.1), (.slice va0x1 vn0x1 vc0x1), (.slice va0x2 vn0x2 vc0x2), (.slice va0x3 vn0x3 vc0x3), (.slice va0x4 vn0x4 vc0x4), (.int .i64 b0.2.2.2.2.2.1), (.int .i64 b0.2.2.2.2.2.2)] from hb0) hl0x1 hl0x2 hl0x3 hl0x4 hO.fut l6) rfl (fun h => nomatch h) ?_
          rintro _ C2 ⟨rfl, c6⟩
          have hO := hO.perm (R := [] ++ (g6 ++ (([a1]) ++ ([])))) (by simp)
          have hl0x1 := hl0x1.ext c6
          have hl0x2 := hl0x2.ext c6
          have hl0x3 := hl0x3.ext c6
          have hl0x4 := hl0x4.ext c6
          have hb0 := hb0.ext c6
          have hb1 := hb1.ext c6
          have a0 := a0.cn c6
          have b7 := b7.ext c6
          have j6 := j6.ext c6
          have hrow3510 := hrow3510.cn c6
          have j3 := at_ext j3 c6
          have g8 := at_ext g8 c6
          have j4 := at_ext j4 c6
          have j5 := at_ext j5 c6
          have hC := hC.ext c6
          have hO := hO.ext c6
          have hO := hO.perm (R := g6 ++ (([a1]) ++ ([]))) (by simp)
          refine x_p 20 (.bool r3518) rfl (by kernel_rfl)  (fun _ => y_pick_t (congrArg Value.bool c0) rfl) (fun h => nomatch h) ?_
          refine x_one (i := 3) (by kernel_rfl) ?_
          obtain ⟨M7, C3, hrow3524, C4⟩ := at_load1 Ag56 Sz56 rfl rfl g8
          obtain ⟨q5, q6, q7, rfl⟩ := rs_sl C4
          refine xk_val (b := true) (.slice q5 q6 q7) rfl  (y_load rfl (C3 _ (Chg.refl _ _))) rfl (fun h => nomatch h) ?_
          obtain ⟨x3519, l7, hs⟩ := bind_some hs
          obtain ⟨C5, C6, M8, _, _⟩ := os_put g7 b7 f6 hrow3524 rfl hO.inM
          obtain ⟨C7, M9, C8, C9, D0, N0, N1⟩ := os_idx Sl56 Sz4 (show (RT.os 4 RT.bool).val M C2 (.slice q5 q6 q7) _ C5 from ⟨[_], rfl, C6⟩) l7
          refine x_p 21 (.pointer (some ⟨C7, 0 + Int.toNat k3354 * 1, none⟩)) rfl (by kernel_rfl)  (fun _ => D0 _ _ _ _ _ _ _ _ _ rfl rfl) (fun h => nomatch h) ?_
          refine x_one (i := 22) (by kernel_rfl) ?_
          obtain ⟨D1, D2, D3, f8, h0, D4, l9⟩ := os_store2 (P := Try.prog) (c' := [(.bool r3518)]) g7 b7 f6 hrow3524 C8 C9 hO.inM ⟨rfl, rfl⟩
          refine xk_skip (w' := D1) (b := true) rfl (ys_store rfl rfl (D3 _ _ rfl Sz4)) rfl (fun h => nomatch h) ?_
          have hl0x1 := hl0x1.mt f8 hO h0
          have hl0x2 := hl0x2.mt f8 hO h0
          have hl0x3 := hl0x3.mt f8 hO h0
          have hl0x4 := hl0x4.mt f8 hO h0
          have hb0 := hb0.mut f8 (fun q hq => hO.inM q (h0 q hq))
          have hb1 := hb1.mut f8 (fun q hq => hO.inM q (h0 q hq))
          have a0 := a0.ap f8 hO h0 (mem_l (List.mem_singleton.2 rfl))
          have hC := hC.st f8 hO h0
          have hO := hO.grow f8 D4 (os_nodup l9) l9.fpl
          refine x_end (by kernel_rfl) ?_
          clear hS
          refine c_region ?_
          refine pl_val (.int .i64 s3486.1) (y_move rfl) ?_
          refine pl_val (.int .i64 (w64 (s3486.1 + 1))) (y_add rfl rfl) ?_
          refine pl_val (.int .i64 (w64 (s3486.1 + 1))) (y_assign rfl) ?_
          refine c_nil ?_
          cases hs
          have hO := hO.fr1
          have hO := hO.fr1
          exact ⟨_, D2, fr_ovl 155 ⟨rfl, rfl, rfl, rfl, rfl, rfl, rfl, rfl, trivial⟩, hC, hO, hl0x1, hl0x2, hl0x3, hl0x4, hb0, hb1, a0, l9⟩
        refine x_pn 14 rfl (by kernel_rfl) (tg := 88) (by kernel_rfl) (congrArg Value.bool c0) (fun _ => hS) ?_
        refine x_pn 15 rfl (by kernel_rfl) (tg := 88) (by kernel_rfl) (congrArg Value.bool c0) (fun _ => hS) ?_
        refine x_pn 16 rfl (by kernel_rfl) (tg := 88) (by kernel_rfl) (congrArg Value.bool c0) (fun _ => hS) ?_
        refine x_pn 17 rfl (by kernel_rfl) (tg := 88) (by kernel_rfl) (congrArg Value.bool c0) (fun _ => hS) ?_
        refine x_pn 18 rfl (by kernel_rfl) (tg := 88) (by kernel_rfl) (congrArg Value.bool c0) (fun _ => hS) ?_
        refine x_two (i := 3) (j := 19) (by kernel_rfl) ?_ ?_
        ·skip
         obtain ⟨N2, D5, hrow3529, D6⟩ := at_load1 Ag56 Sz56 rfl rfl g8
         obtain ⟨q8, q9, r0, rfl⟩ := rs_sl D6
         refine xk_val (b := false) (.slice q8 q9 r0) rfl  (y_load rfl (D5 _ (Chg.refl _ _))) rfl (fun _ => hS) ?_
         refine x_one (i := 19) (by kernel_rfl) ?_
         refine xk_no (b := true) rfl (tg := 88) (by kernel_rfl) (congrArg Value.bool c0) rfl (fun h => nomatch h) ?_
         refine x_p 20 (.bool false) rfl (by kernel_rfl)  (fun _ => y_pick_f (congrArg Value.bool c0) rfl) (fun h => nomatch h) ?_
         obtain ⟨x3531, m0, hs⟩ := bind_some hs
         obtain ⟨D7, D8, N3, _, _⟩ := os_put g7 b7 f6 hrow3529 rfl hO.inM
         obtain ⟨D9, N4, E0, E1, E2, N5, N6⟩ := os_idx Sl56 Sz4 (show (RT.os 4 RT.bool).val M k3 (.slice q8 q9 r0) _ D7 from ⟨[_], rfl, D8⟩) m0
         refine x_p 21 (.pointer (some ⟨D9, 0 + Int.toNat k3354 * 1, none⟩)) rfl (by kernel_rfl)  (fun _ => E2 _ _ _ _ _ _ _ _ _ rfl rfl) (fun h => nomatch h) ?_
         refine x_one (i := 22) (by kernel_rfl) ?_
         obtain ⟨E3, E4, E5, f9, h1, E6, m1⟩ := os_store2 (P := Try.prog) (c' := [(.bool false)]) g7 b7 f6 hrow3529 E0 E1 hO.inM ⟨rfl, rfl⟩
         refine xk_skip (w' := E3) (b := true) rfl (ys_store rfl rfl (E5 _ _ rfl Sz4)) rfl (fun h => nomatch h) ?_
         have hl0x1 := hl0x1.mt f9 hO h1
         have hl0x2 := hl0x2.mt f9 hO h1
         have hl0x3 := hl0x3.mt f9 hO h1
         have hl0x4 := hl0x4.mt f9 hO h1
         have hb0 := hb0.mut f9 (fun q hq => hO.inM q (h1 q hq))
         have hb1 := hb1.mut f9 (fun q hq => hO.inM q (h1 q hq))
         have a0 := a0.ap f9 hO h1 (mem_l (List.mem_singleton.2 rfl))
         have hC := hC.st f9 hO h1
         have hO := hO.grow f9 E6 (os_nodup m1) m1.fpl
         refine x_end (by kernel_rfl) ?_
         clear hS
         refine c_region ?_
         refine pl_val (.int .i64 s3486.1) (y_move rfl) ?_
         refine pl_val (.int .i64 (w64 (s3486.1 + 1))) (y_add rfl rfl) ?_
         refine pl_val (.int .i64 (w64 (s3486.1 + 1))) (y_assign rfl) ?_
         refine c_nil ?_
         cases hs
         have hO := hO.fr1
         have hO := hO.fr1
         exact ⟨_, E4, fr_ovl 155 ⟨rfl, rfl, rfl, rfl, rfl, rfl, rfl, rfl, trivial⟩, hC, hO, hl0x1, hl0x2, hl0x3, hl0x4, hb0, hb1, a0, m1⟩
        ·skip
         refine xk_no (b := true) rfl (tg := 88) (by kernel_rfl) (congrArg Value.bool c0) rfl (fun h => nomatch h) ?_
         refine x_p 20 (.bool false) rfl (by kernel_rfl)  (fun _ => y_pick_f (congrArg Value.bool c0) rfl) (fun h => nomatch h) ?_
         refine x_one (i := 3) (by kernel_rfl) ?_
         obtain ⟨N7, E7, hrow3534, E8⟩ := at_load1 Ag56 Sz56 rfl rfl g8
         obtain ⟨r1, r2, r3, rfl⟩ := rs_sl E8
         refine xk_val (b := true) (.slice r1 r2 r3) rfl  (y_load rfl (E7 _ (Chg.refl _ _))) rfl (fun h => nomatch h) ?_
         obtain ⟨x3531, m0, hs⟩ := bind_some hs
         obtain ⟨E9, F0, N8, _, _⟩ := os_put g7 b7 f6 hrow3534 rfl hO.inM
         obtain ⟨F1, N9, F2, F3, F4, O0, O1⟩ := os_idx Sl56 Sz4 (show (RT.os 4 RT.bool).val M k3 (.slice r1 r2 r3) _ E9 from ⟨[_], rfl, F0⟩) m0
         refine x_p 21 (.pointer (some ⟨F1, 0 + Int.toNat k3354 * 1, none⟩)) rfl (by kernel_rfl)  (fun _ => F4 _ _ _ _ _ _ _ _ _ rfl rfl) (fun h => nomatch h) ?_
         refine x_one (i := 22) (by kernel_rfl) ?_
         obtain ⟨F5, F6, F7, g0, h2, F8, m2⟩ := os_store2 (P := Try.prog) (c' := [(.bool false)]) g7 b7 f6 hrow3534 F2 F3 hO.inM ⟨rfl, rfl⟩
         refine xk_skip (w' := F5) (b := true) rfl (ys_store rfl rfl (F7 _ _ rfl Sz4)) rfl (fun h => nomatch h) ?_
         have hl0x1 := hl0x1.mt g0 hO h2
         have hl0x2 := hl0x2.mt g0 hO h2
         have hl0x3 := hl0x3.mt g0 hO h2
         have hl0x4 := hl0x4.mt g0 hO h2
         have hb0 := hb0.mut g0 (fun q hq => hO.inM q (h2 q hq))
         have hb1 := hb1.mut g0 (fun q hq => hO.inM q (h2 q hq))
         have a0 := a0.ap g0 hO h2 (mem_l (List.mem_singleton.2 rfl))
         have hC := hC.st g0 hO h2
         have hO := hO.grow g0 F8 (os_nodup m2) m2.fpl
         refine x_end (by kernel_rfl) ?_
         clear hS
         refine c_region ?_
         refine pl_val (.int .i64 s3486.1) (y_move rfl) ?_
         refine pl_val (.int .i64 (w64 (s3486.1 + 1))) (y_add rfl rfl) ?_
         refine pl_val (.int .i64 (w64 (s3486.1 + 1))) (y_assign rfl) ?_
         refine c_nil ?_
         cases hs
         have hO := hO.fr1
         have hO := hO.fr1
         exact ⟨_, F6, fr_ovl 155 ⟨rfl, rfl, rfl, rfl, rfl, rfl, rfl, rfl, trivial⟩, hC, hO, hl0x1, hl0x2, hl0x3, hl0x4, hb0, hb1, a0, m2⟩
       refine c_condF (congrArg Value.bool l4) ?_
       refine wp_exit ?_
       cases hs
       have hO := hO.fr1
       have hO := hO.fr1
       exact ⟨rfl, _, g6, fr_ovl 155 ⟨rfl, rfl, rfl, rfl, rfl, rfl, rfl, trivial⟩, hC, hO, hl0x1, hl0x2, hl0x3, hl0x4, hb0, hb1, a0, b7⟩
      ·skip
       have hO := hO.fr1
       have hO := hO.fr1
       exact ⟨_, e5, fr_ovl 155 ⟨rfl, rfl, rfl, rfl, rfl, rfl, rfl, rfl, trivial⟩, hC, hO, hl0x1, hl0x2, hl0x3, hl0x4, hb0, hb1, a0, d0⟩
      cases o3490 with
      | nx _ => exact True.intro
      | rt r_ =>
       have hs := after_rt hs
       intro d2 h7 hK
       cases hs
       exact hK
      | br s3486 =>
       have hs := after_br hs
       rintro d2 b2 ⟨σ, k1, rfl, hC, hO, hl0x1, hl0x2, hl0x3, hl0x4, hb0, hb1, a0, F9⟩
       refine c_region ?_
       refine pl_val (.int .i64 k3354) (y_move rfl) ?_
       refine pl_val (.int .i64 (w64 (k3354 + 1))) (y_add rfl rfl) ?_
       refine pl_val (.int .i64 (w64 (k3354 + 1))) (y_assign rfl) ?_
       refine c_nil ?_
       cases hs
       have hO := hO.fr1
       have hO := hO.fr1
       exact ⟨_, k1, fr_ovl 155 ⟨rfl, rfl, rfl, rfl, rfl, rfl, congrArg (Value.int .i64) hw, trivial⟩, hC, hO, hl0x1, hl0x2, hl0x3, hl0x4, hb0, hb1, a0, F9⟩
     ·skip
      have hO := hO.fr1
      have hO := hO.fr1
      exact ⟨_, u4, fr_ovl 155 ⟨rfl, rfl, rfl, rfl, rfl, rfl, rfl, trivial⟩, hC, hO, hl0x1, hl0x2, hl0x3, hl0x4, hb0, hb1, a0, k9⟩
     cases o3356 with
     | nx _ => exact True.intro
     | rt r_ =>
      have hs := after_rt hs
      intro d2 h7 hK
      cases hs
      exact hK
     | br s3352 =>
      have hs := after_br hs
      rintro d2 b1 ⟨σ, j8, rfl, hC, hO, hl0x1, hl0x2, hl0x3, hl0x4, hb0, hb1, a0, G0⟩
      refine c_region ?_
      refine pl_val (.int .i64 s2978.1) (y_move rfl) ?_
      refine pl_val (.int .i64 (w64 (s2978.1 - 1))) (y_sub rfl rfl) ?_
      refine pl_val (.int .i64 (w64 (s2978.1 - 1))) (y_assign rfl) ?_
      refine c_nil ?_
      cases hs
      have hO := hO.fr1
      have hO := hO.fr1
      exact ⟨_, j8, fr_ovl 155 ⟨rfl, rfl, rfl, rfl, rfl, rfl, trivial⟩, hC, hO, hl0x1, hl0x2, hl0x3, hl0x4, hb0, hb1, a0, G0⟩
    refine c_condF (congrArg Value.bool k7) ?_
    refine wp_exit ?_
    cases hs
    have hO := hO.fr1
    have hO := hO.fr1
    exact ⟨rfl, _, h8, fr_ovl 155 ⟨rfl, rfl, rfl, rfl, rfl, trivial⟩, hC, hO, hl0x1, hl0x2, hl0x3, hl0x4, hb0, hb1, a0, h3⟩
   ·skip
    have hO := hO.fr1
    have hO := hO.fr1
    exact ⟨_, t0, fr_ovl 155 ⟨rfl, rfl, rfl, rfl, rfl, rfl, trivial⟩, hC, hO, hl0x1, hl0x2, hl0x3, hl0x4, hb0, hb1, a0, k6⟩
   cases o2982 with
   | nx _ => exact True.intro
   | rt r_ =>
    have hs := after_rt hs
    intro d2 h7 hK
    cases hs
    exact hK
   | br s2978 =>
    have hs := after_br hs
    rintro d2 b4 ⟨σ, b8, rfl, hC, hO, hl0x1, hl0x2, hl0x3, hl0x4, hb0, hb1, a0, a2⟩
    refine c_sr ?_
    obtain ⟨r4, i0, G1, r5, e7, r6⟩ := new_block b4 [] 3
    refine pl_val (w' := r4) (.slice (some ⟨i0, 0, none⟩) 0 0) (y_bslice rfl (by rw [G1, r5]; kernel_rfl)) ?_
    have hl0x1 := hl0x1.ext e7
    have hl0x2 := hl0x2.ext e7
    have hl0x3 := hl0x3.ext e7
    have hl0x4 := hl0x4.ext e7
    have hb0 := hb0.ext e7
    have hb1 := hb1.ext e7
    have a0 := a0.cn e7
    have a2 := a2.ext e7
    have hC := hC.ext e7
    have hO := hO.new1 e7 r5 r6.lt
    have m3 := os_of_box (r := (RT.int .i64)) (M := M) (css := []) (fps := []) (xs := ([] : List Int)) r6 trivial (Nat.zero_le _) (List.nodup_cons.2 ⟨(fun h => nomatch h), List.nodup_nil⟩)
    have m3 : (RT.os 3 (RT.int .i64)).val M r4 (.slice (some ⟨i0, 0, none⟩) 0 0) [] [i0] := m3
    refine pl_val (.slice (some ⟨i0, 0, none⟩) 0 0) (y_assign rfl) ?_
    refine c_nil ?_
    refine c_seq ?_
    refine c_sr ?_
    refine pl_val (.int .i64 0) (y_assign rfl) ?_
    refine c_nil ?_
    obtain ⟨o3630, G2, hs⟩ := bind_some hs
    refine wp_block ?_
    refine wp_forC (id := 8) s1861 (I := fun k3628 s3626 a b3 => ∃ (σ : Nat → Value) (i1 : Option Addr) (i2 : Nat) (i3 : Nat) (i4 : List Nat), a = fr 155 (ovl σ [(2, (.int .i64 most)), (4, (.pointer (some ⟨a1, 0, none⟩))), (7, (.int .i64 (b0.2.1.length : Int))), (8, (.int .i64 s1861)), (9, (.slice a3 a4 a5)), (13, (.slice i1 i2 i3)), (14, (.int .i64 k3628))]) ∧ Chg [] w b3 ∧ Own (Nw w []) M b3 (i4 ++ (b8 ++ (([a1]) ++ []))) ∧ (RT.rs (RT.rs (RT.int .i64))).val M b3 (.slice va0x1 vn0x1 vc0x1) b0.2.1 ([]) ∧ (RT.rs RT.bool).val M b3 (.slice va0x2 vn0x2 vc0x2) b0.2.2.1 ([]) ∧ (RT.rs (RT.rs (RT.int .i64))).val M b3 (.slice va0x3 vn0x3 vc0x3) b0.2.2.2.1 ([]) ∧ (RT.rs (RT.rs (RT.int .i64))).val M b3 (.slice va0x4 vn0x4 vc0x4) b0.2.2.2.2.1 ([]) ∧ RBox M b3 vg0 58 [(.int .i64 b0.1), (.slice va0x1 vn0x1 vc0x1), (.slice va0x2 vn0x2 vc0x2), (.slice va0x3 vn0x3 vc0x3), (.slice va0x4 vn0x4 vc0x4), (.int .i64 b0.2.2.2.2.2.1), (.int .i64 b0.2.2.2.2.2.2)] ∧ RBox M b3 vg1 52 [(.pointer (some ⟨vg0, 0, none⟩))] ∧ BoxV b3 a1 105 [(.int .i64 l.1), (.func (.func 100) #[] #[(.pointer (some ⟨vg1, 0, none⟩))]), (.func (.func 101) #[] #[(.pointer (some ⟨vg1, 0, none⟩))]), (.func (.func 102) #[] #[(.pointer (some ⟨vg1, 0, none⟩))])] ∧ (RT.os 56 (RT.os 4 RT.bool)).val M b3 (.slice a3 a4 a5) s2978.2 b8 ∧ (RT.os 3 (RT.int .i64)).val M b3 (.slice i1 i2 i3) s3626 i4) (J := fun s3626 a b3 => ∃ (σ : Nat → Value) (h4 : Option Addr) (h5 : Nat) (h6 : Nat) (k4 : List Nat), a = fr 155 (ovl σ [(2, (.int .i64 most)), (4, (.pointer (some ⟨a1, 0, none⟩))), (7, (.int .i64 (b0.2.1.length : Int))), (8, (.int .i64 s1861)), (13, (.slice h4 h5 h6))]) ∧ Chg [] w b3 ∧ Own (Nw w []) M b3 (k4 ++ (b8 ++ (([a1]) ++ []))) ∧ (RT.rs (RT.rs (RT.int .i64))).val M b3 (.slice va0x1 vn0x1 vc0x1) b0.2.1 ([]) ∧ (RT.rs RT.bool).val M b3 (.slice va0x2 vn0x2 vc0x2) b0.2.2.1 ([]) ∧ (RT.rs (RT.rs (RT.int .i64))).val M b3 (.slice va0x3 vn0x3 vc0x3) b0.2.2.2.1 ([]) ∧ (RT.rs (RT.rs (RT.int .i64))).val M b3 (.slice va0x4 vn0x4 vc0x4) b0.2.2.2.2.1 ([]) ∧ RBox M b3 vg0 58 [(.int .i64 b0.1), (.slice va0x1 vn0x1 vc0x1), (.slice va0x2 vn0x2 vc0x2), (.slice va0x3 vn0x3 vc0x3), (.slice va0x4 vn0x4 vc0x4), (.int .i64 b0.2.2.2.2.2.1), (.int .i64 b0.2.2.2.2.2.2)] ∧ RBox M b3 vg1 52 [(.pointer (some ⟨vg0, 0, none⟩))] ∧ BoxV b3 a1 105 [(.int .i64 l.1), (.func (.func 100) #[] #[(.pointer (some ⟨vg1, 0, none⟩))]), (.func (.func 101) #[] #[(.pointer (some ⟨vg1, 0, none⟩))]), (.func (.func 102) #[] #[(.pointer (some ⟨vg1, 0, none⟩))])] ∧ (RT.os 56 (RT.os 4 RT.bool)).val M b3 (.slice a3 a4 a5) s2978.2 b8 ∧ (RT.os 3 (RT.int .i64)).val M b3 (.slice h4 h5 h6) s3626 k4) (K := (k_impl_chainer__shortest__chainer__direct_1_chainer__direct_2_chainer__direct_3 M w)) ?_ ?_ 0 ([]) o3630 _ _ ?_ G2 ?_
    ·rintro k3628 s3626 a b3 ⟨σ, i1, i2, i3, i4, rfl, hC, hO, hl0x1, hl0x2, hl0x3, hl0x4, hb0, hb1, a0, a2, m4⟩ hlt
     refine c_seq ?_
     refine c_sr ?_
     refine pl_val (.int .i64 k3628) (y_move rfl) ?_
     refine pl_val (.int .i64 s1861) (y_move rfl) ?_
     refine pl_val (.bool (decide (k3628 < s1861))) (y_lss rfl rfl) ?_
     refine c_nil ?_
     refine c_condF (congrArg Value.bool (decide_eq_false hlt)) ?_
     refine wp_exit ?_
     have hO := hO.fr2
     have hO := hO.fr2
     have hO := hO.fr2
     exact ⟨rfl, _, i1, i2, i3, i4, fr_ovl 155 ⟨rfl, rfl, rfl, rfl, rfl, trivial⟩, hC, hO, hl0x1, hl0x2, hl0x3, hl0x4, hb0, hb1, a0, a2, m4⟩
    ·rintro k3628 s3626 o3630 a b3 ⟨σ, i1, i2, i3, i4, rfl, hC, hO, hl0x1, hl0x2, hl0x3, hl0x4, hb0, hb1, a0, a2, m4⟩ hlt hw hs
     refine c_seq ?_
     refine c_sr ?_
     refine pl_val (.int .i64 k3628) (y_move rfl) ?_
     refine pl_val (.int .i64 s1861) (y_move rfl) ?_
     refine pl_val (.bool (decide (k3628 < s1861))) (y_lss rfl rfl) ?_
     refine c_nil ?_
     refine c_condT (congrArg Value.bool (decide_eq_true hlt)) ?_
     refine wp_skip ?_
     refine c_seq ?_
     refine wp_block ?_
     refine c_seq ?_
     refine c_sr ?_
     refine pl_val (.int .i64 0) (y_assign rfl) ?_
     refine c_nil ?_
     obtain ⟨o3677, G3, hs⟩ := bind_some hs
     refine wp_block ?_
     refine wp_forC (id := 10) (b0.2.1.length : Int) (I := fun k3675 s3673 a a6 => ∃ (σ : Nat → Value) (e8 : Option Addr) (e9 : Nat) (f0 : Nat) (c7 : List Nat), a = fr 155 (ovl σ [(2, (.int .i64 most)), (4, (.pointer (some ⟨a1, 0, none⟩))), (7, (.int .i64 (b0.2.1.length : Int))), (8, (.int .i64 s1861)), (9, (.slice a3 a4 a5)), (13, (.slice e8 e9 f0)), (14, (.int .i64 k3628)), (15, (.int .i64 k3675))]) ∧ Chg [] w a6 ∧ Own (Nw w []) M a6 (c7 ++ (b8 ++ (([a1]) ++ []))) ∧ (RT.rs (RT.rs (RT.int .i64))).val M a6 (.slice va0x1 vn0x1 vc0x1) b0.2.1 ([]) ∧ (RT.rs RT.bool).val M a6 (.slice va0x2 vn0x2 vc0x2) b0.2.2.1 ([]) ∧ (RT.rs (RT.rs (RT.int .i64))).val M a6 (.slice va0x3 vn0x3 vc0x3) b0.2.2.2.1 ([]) ∧ (RT.rs (RT.rs (RT.int .i64))).val M a6 (.slice va0x4 vn0x4 vc0x4) b0.2.2.2.2.1 ([]) ∧ RBox M a6 vg0 58 [(.int .i64 b0.1), (.slice va0x1 vn0x1 vc0x1), (.slice va0x2 vn0x2 vc0x2), (.slice va0x3 vn0x3 vc0x3), (.slice va0x4 vn0x4 vc0x4), (.int .i64 b0.2.2.2.2.2.1), (.int .i64 b0.2.2.2.2.2.2)] ∧ RBox M a6 vg1 52 [(.pointer (some ⟨vg0, 0, none⟩))] ∧ BoxV a6 a1 105 [(.int .i64 l.1), (.func (.func 100) #[] #[(.pointer (some ⟨vg1, 0, none⟩))]), (.func (.func 101) #[] #[(.pointer (some ⟨vg1, 0, none⟩))]), (.func (.func 102) #[] #[(.pointer (some ⟨vg1, 0, none⟩))])] ∧ (RT.os 56 (RT.os 4 RT.bool)).val M a6 (.slice a3 a4 a5) s2978.2 b8 ∧ (RT.os 3 (RT.int .i64)).val M a6 (.slice e8 e9 f0) s3673 c7) (J := fun s3673 a a6 => ∃ (σ : Nat → Value) (i5 : Option Addr) (i6 : Nat) (i7 : Nat) (j7 : List Nat), a = fr 155 (ovl σ [(2, (.int .i64 most)), (4, (.pointer (some ⟨a1, 0, none⟩))), (7, (.int .i64 (b0.2.1.length : Int))), (8, (.int .i64 s1861)), (9, (.slice a3 a4 a5)), (13, (.slice i5 i6 i7)), (14, (.int .i64 k3628))]) ∧ Chg [] w a6 ∧ Own (Nw w []) M a6 (j7 ++ (b8 ++ (([a1]) ++ []))) ∧ (RT.rs (RT.rs (RT.int .i64))).val M a6 (.slice va0x1 vn0x1 vc0x1) b0.2.1 ([]) ∧ (RT.rs RT.bool).val M a6 (.slice va0x2 vn0x2 vc0x2) b0.2.2.1 ([]) ∧ (RT.rs (RT.rs (RT.int .i64))).val M a6 (.slice va0x3 vn0x3 vc0x3) b0.2.2.2.1 ([]) ∧ (RT.rs (RT.rs (RT.int .i64))).val M a6 (.slice va0x4 vn0x4 vc0x4) b0.2.2.2.2.1 ([]) ∧ RBox M a6 vg0 58 [(.int .i64 b0.1), (.slice va0x1 vn0x1 vc0x1), (.slice va0x2 vn0x2 vc0x2), (.slice va0x3 vn0x3 vc0x3), (.slice va0x4 vn0x4 vc0x4), (.int .i64 b0.2.2.2.2.2.1), (.int .i64 b0.2.2.2.2.2.2)] ∧ RBox M a6 vg1 52 [(.pointer (some ⟨vg0, 0, none⟩))] ∧ BoxV a6 a1 105 [(.int .i64 l.1), (.func (.func 100) #[] #[(.pointer (some ⟨vg1, 0, none⟩))]), (.func (.func 101) #[] #[(.pointer (some ⟨vg1, 0, none⟩))]), (.func (.func 102) #[] #[(.pointer (some ⟨vg1, 0, none⟩))])] ∧ (RT.os 56 (RT.os 4 RT.bool)).val M a6 (.slice a3 a4 a5) s2978.2 b8 ∧ (RT.os 3 (RT.int .i64)).val M a6 (.slice i5 i6 i7) s3673 j7) (K := (k_impl_chainer__shortest__chainer__direct_1_chainer__direct_2_chainer__direct_3 M w)) ?_ ?_ 0 s3626 o3677 _ _ ?_ G3 ?_
     ·rintro k3675 s3673 a a6 ⟨σ, e8, e9, f0, c7, rfl, hC, hO, hl0x1, hl0x2, hl0x3, hl0x4, hb0, hb1, a0, a2, b5⟩ hlt
      refine c_seq ?_
      refine c_sr ?_
      refine pl_val (.int .i64 k3675) (y_move rfl) ?_
      refine pl_val (.int .i64 (b0.2.1.length : Int)) (y_move rfl) ?_
      refine pl_val (.bool (decide (k3675 < (b0.2.1.length : Int)))) (y_lss rfl rfl) ?_
      refine c_nil ?_
      refine c_condF (congrArg Value.bool (decide_eq_false hlt)) ?_
      refine wp_exit ?_
      have hO := hO.fr2
      have hO := hO.fr2
      have hO := hO.fr2
      exact ⟨rfl, _, e8, e9, f0, c7, fr_ovl 155 ⟨rfl, rfl, rfl, rfl, rfl, rfl, rfl, trivial⟩, hC, hO, hl0x1, hl0x2, hl0x3, hl0x4, hb0, hb1, a0, a2, b5⟩
     ·rintro k3675 s3673 o3677 a a6 ⟨σ, e8, e9, f0, c7, rfl, hC, hO, hl0x1, hl0x2, hl0x3, hl0x4, hb0, hb1, a0, a2, b5⟩ hlt hw hs
      refine c_seq ?_
      refine c_sr ?_
      refine pl_val (.int .i64 k3675) (y_move rfl) ?_
      refine pl_val (.int .i64 (b0.2.1.length : Int)) (y_move rfl) ?_
      refine pl_val (.bool (decide (k3675 < (b0.2.1.length : Int)))) (y_lss rfl rfl) ?_
      refine c_nil ?_
      refine c_condT (congrArg Value.bool (decide_eq_true hlt)) ?_
      refine wp_skip ?_
      refine c_seq ?_
      refine wp_block ?_
      refine c_seq ?_
      obtain ⟨s3683, G4, hs⟩ := bind_some hs
      refine c_mid (I := fun a m5 => ∃ (σ : Nat → Value), a = fr 155 (ovl σ [(2, (.int .i64 most)), (4, (.pointer (some ⟨a1, 0, none⟩))), (7, (.int .i64 (b0.2.1.length : Int))), (8, (.int .i64 s1861)), (9, (.slice a3 a4 a5)), (13, (.slice e8 e9 f0)), (14, (.int .i64 k3628)), (15, (.int .i64 k3675)), (141, (.bool s3683))]) ∧ Chg [] a6 m5) ?_ ?_
      ·replace hs := G4
       have hMid := Chg.refl [] a6
       refine x_start [14, 30] Mx rfl ?_
       have d3 := Chg.drew a6
       generalize World.drew a6 = r7 at d3 ⊢
       have hl0x1 := hl0x1.ext d3
       have hl0x2 := hl0x2.ext d3
       have hl0x3 := hl0x3.ext d3
       have hl0x4 := hl0x4.ext d3
       have hb0 := hb0.ext d3
       have hb1 := hb1.ext d3
       have a0 := a0.cn d3
       have a2 := a2.ext d3
       have b5 := b5.ext d3
       have hMid := hMid.ext d3
       have hC := hC.ext d3
       have hO := hO.ext d3
       have hS := Chg.refl [] r7
       refine x_p 0 (.slice a3 a4 a5) rfl (by kernel_rfl)  (fun _ => y_move rfl) (fun _ => hS) ?_
       refine x_p 1 (.int .i64 k3628) rfl (by kernel_rfl)  (fun _ => y_move rfl) (fun _ => hS) ?_
       obtain ⟨x3687, r8, hs⟩ := bind_some hs
       obtain ⟨G5, O2, G6, O3, G7, d8, G8⟩ := os_idx Sl106 Sz56 a2 r8
       have d9 := own_row (Frz.os Frz.bool) d8 G8
       refine x_p 2 (.pointer (some ⟨G5, 0 + Int.toNat k3628 * 1, none⟩)) rfl (by kernel_rfl)  (fun _ => G7 _ _ _ _ _ _ _ _ _ rfl rfl) (fun _ => hS) ?_
       obtain ⟨O4, G9, hrow3689, e0⟩ := at_load1 Ag56 Sz56 rfl rfl d9
       obtain ⟨r9, s0, s1, rfl⟩ := rs_sl e0
       refine x_l 3 (.slice r9 s0 s1) rfl (by kernel_rfl)  (fun w' hw' => y_load rfl (G9 w' hw')) hS ?_
       refine x_p 4 (.int .i64 k3675) rfl (by kernel_rfl)  (fun _ => y_move rfl) (fun _ => hS) ?_
       obtain ⟨x3691, H0, hs⟩ := bind_some hs
       have hO := hO.fr1
       obtain ⟨H1, H2, O5, _, _⟩ := os_put G6 a2 r8 hrow3689 rfl hO.inM
       obtain ⟨H3, O6, O7, O8, H4, H5, O9⟩ := os_idx Sl56 Sz4 (show (RT.os 4 RT.bool).val M r7 (.slice r9 s0 s1) _ H1 from ⟨[_], rfl, H2⟩) H0
       refine x_p 5 (.pointer (some ⟨H3, 0 + Int.toNat k3675 * 1, none⟩)) rfl (by kernel_rfl)  (fun _ => H4 _ _ _ _ _ _ _ _ _ rfl rfl) (fun _ => hS) ?_
       refine x_l 6 (.bool x3691) rfl (by kernel_rfl)  (fun w' hw' => y_load rfl ((at_load_bool Ag4 Sz4 H5) w' hw')) hS ?_
       refine x_p 7 (.bool x3691) rfl (by kernel_rfl)  (fun _ => y_move rfl) (fun _ => hS) ?_
       rcases bif_some hs with ⟨a7, hs⟩ | ⟨a7, hs⟩
       ·skip
        refine x_py 8 (.int .i64 k3628) rfl (by kernel_rfl) (tg := 115) (by kernel_rfl) (congrArg Value.bool a7) (fun _ => y_move rfl) (fun _ => hS) ?_
        refine x_py 9 (.bool (k3628 == 0)) rfl (by kernel_rfl) (tg := 115) (by kernel_rfl) (congrArg Value.bool a7) (fun _ => y_eql rfl rfl) (fun _ => hS) ?_
        refine x_py 10 (.bool (k3628 == 0)) rfl (by kernel_rfl) (tg := 115) (by kernel_rfl) (congrArg Value.bool a7) (fun _ => y_move rfl) (fun _ => hS) ?_
        rcases bif_some hs with ⟨e1, hs⟩ | ⟨e1, hs⟩
        ·skip
         refine x_py 11 (.pointer (some ⟨a1, 1, none⟩)) rfl (by kernel_rfl) (tg := 118) (by kernel_rfl) (congrArg Value.bool e1) (fun _ => y_faddr rfl Fa105x1) (fun _ => hS) ?_
         refine x_ly 12 (.func (.func 100) #[] #[(.pointer (some ⟨vg1, 0, none⟩))]) rfl (by kernel_rfl) (tg := 118) (by kernel_rfl) (congrArg Value.bool e1) (fun w' hw' => y_load rfl ((box_load Ag61 Sz61 a0 [(.int .i64 l.1)] [(.func (.func 100) #[] #[(.pointer (some ⟨vg1, 0, none⟩))])] [(.func (.func 101) #[] #[(.pointer (some ⟨vg1, 0, none⟩))]), (.func (.func 102) #[] #[(.pointer (some ⟨vg1, 0, none⟩))])] rfl rfl (fun _ => rfl)) w' hw')) hS ?_
         refine x_py 13 (.int .i64 k3675) rfl (by kernel_rfl) (tg := 118) (by kernel_rfl) (congrArg Value.bool e1) (fun _ => y_move rfl) (fun _ => hS) ?_
         refine x_one (i := 14) (by kernel_rfl) ?_
         obtain ⟨r3696, H6, hs⟩ := bind_some hs
         refine xk_callby (b := true) rfl (tg := 118) (by kernel_rfl) (congrArg Value.bool e1) rfl Bd100 rfl (c_impl_chainer__direct_1__g (M := M) k3675 (b0.1, b0.2.1, b0.2.2.1, b0.2.2.2.1, b0.2.2.2.2.1, b0.2.2.2.2.2.1, b0.2.2.2.2.2.2) (show RBox M _ vg1 52 [(.pointer (some ⟨vg0, 0, none⟩))] from hb1) (show RBox M _ vg0 58 [(.int .i64 b0.1), (.slice va0x1 vn0x1 vc0x1), (.slice va0x2 vn0x2 vc0x2), (.slice va0x3 vn0x3 vc0x3), (.slice va0x4 vn0x4 vc0x4), (.int .i64 b0.2.2.2.2.2.1), (.int .i64 b0.2.2.2.2.2.2)] from hb0) hl0x1 hl0x2 hl0x3 hl0x4 hO.fut H6) rfl (fun h => nomatch h) ?_
         rintro _ P0 ⟨rfl, c8⟩
         have hO := hO.perm (R := [] ++ (b8 ++ (c7 ++ (([a1]) ++ ([]))))) (by simp)
         have hl0x1 := hl0x1.ext c8
         have hl0x2 := hl0x2.ext c8
         have hl0x3 := hl0x3.ext c8
         have hl0x4 := hl0x4.ext c8
         have hb0 := hb0.ext c8
         have hb1 := hb1.ext c8
         have a0 := a0.cn c8
         have a2 := a2.ext c8
         have b5 := b5.ext c8
         have e0 := e0.ext c8
         have hrow3689 := hrow3689.cn c8
         have hMid := hMid.ext c8
         have d8 := at_ext d8 c8
         have d9 := at_ext d9 c8
         have hC := hC.ext c8
         have hO := hO.ext c8
         have hO := hO.perm (R := b8 ++ (c7 ++ (([a1]) ++ ([])))) (by simp)
         refine x_py 15 (.bool r3696) rfl (by kernel_rfl) (tg := 115) (by kernel_rfl) (congrArg Value.bool a7) (fun _ => y_pick_t (congrArg Value.bool e1) rfl) (fun h => nomatch h) ?_
         refine x_py 16 (.bool r3696) rfl (by kernel_rfl) (tg := 115) (by kernel_rfl) (congrArg Value.bool a7) (fun _ => y_move rfl) (fun h => nomatch h) ?_
         rcases bif_some hs with ⟨c9, hs⟩ | ⟨c9, hs⟩
         ·skip
          refine x_pn 17 rfl (by kernel_rfl) (tg := 124) (by kernel_rfl) (congrArg Value.bool c9) (fun h => nomatch h) ?_
          refine x_pn 18 rfl (by kernel_rfl) (tg := 124) (by kernel_rfl) (congrArg Value.bool c9) (fun h => nomatch h) ?_
          refine x_pn 19 rfl (by kernel_rfl) (tg := 124) (by kernel_rfl) (congrArg Value.bool c9) (fun h => nomatch h) ?_
          refine x_pnu 20 rfl (by kernel_rfl) (tg := 127) (by kernel_rfl) rfl (fun h => nomatch h) ?_
          refine x_pnu 21 rfl (by kernel_rfl) (tg := 127) (by kernel_rfl) rfl (fun h => nomatch h) ?_
          refine x_pnu 22 rfl (by kernel_rfl) (tg := 127) (by kernel_rfl) rfl (fun h => nomatch h) ?_
          refine x_pnu 23 rfl (by kernel_rfl) (tg := 127) (by kernel_rfl) rfl (fun h => nomatch h) ?_
          refine x_pnu 24 rfl (by kernel_rfl) (tg := 127) (by kernel_rfl) rfl (fun h => nomatch h) ?_
          refine x_pnu 25 rfl (by kernel_rfl) (tg := 127) (by kernel_rfl) rfl (fun h => nomatch h) ?_
          refine x_pnu 26 rfl (by kernel_rfl) (tg := 127) (by kernel_rfl) rfl (fun h => nomatch h) ?_
          refine x_pnu 27 rfl (by kernel_rfl) (tg := 127) (by kernel_rfl) rfl (fun h => nomatch h) ?_
          refine x_pnu 28 rfl (by kernel_rfl) (tg := 127) (by kernel_rfl) rfl (fun h => nomatch h) ?_
          refine x_pnu 29 rfl (by kernel_rfl) (tg := 127) (by kernel_rfl) rfl (fun h => nomatch h) ?_
          refine x_one (i := 30) (by kernel_rfl) ?_
          refine xk_nou (b := true) rfl (tg := 127) (by kernel_rfl) rfl rfl (fun h => nomatch h) ?_
          refine x_pn 31 rfl (by kernel_rfl) (tg := 124) (by kernel_rfl) (congrArg Value.bool c9) (fun h => nomatch h) ?_
          refine x_py 32 (.bool true) rfl (by kernel_rfl) (tg := 115) (by kernel_rfl) (congrArg Value.bool a7) (fun _ => y_pick_t (congrArg Value.bool c9) rfl) (fun h => nomatch h) ?_
          refine x_p 33 (.bool true) rfl (by kernel_rfl)  (fun _ => y_pick_t (congrArg Value.bool a7) rfl) (fun h => nomatch h) ?_
          refine x_end (by kernel_rfl) ?_
          clear hS
          cases hs
          exact ⟨_, fr_ovl 155 ⟨rfl, rfl, rfl, rfl, rfl, rfl, rfl, rfl, rfl, trivial⟩, hMid⟩
         refine x_py 17 (.int .i64 k3628) rfl (by kernel_rfl) (tg := 124) (by kernel_rfl) (congrArg Value.bool c9) (fun _ => y_move rfl) (fun h => nomatch h) ?_
         refine x_py 18 (.bool (decide (0 < k3628))) rfl (by kernel_rfl) (tg := 124) (by kernel_rfl) (congrArg Value.bool c9) (fun _ => y_gtr rfl rfl) (fun h => nomatch h) ?_
         refine x_py 19 (.bool (decide (0 < k3628))) rfl (by kernel_rfl) (tg := 124) (by kernel_rfl) (congrArg Value.bool c9) (fun _ => y_move rfl) (fun h => nomatch h) ?_
         rcases bif_some hs with ⟨a8, hs⟩ | ⟨a8, hs⟩
         ·skip
          refine x_py 20 (.pointer (some ⟨a1, 3, none⟩)) rfl (by kernel_rfl) (tg := 127) (by kernel_rfl) (congrArg Value.bool a8) (fun _ => y_faddr rfl Fa105x3) (fun h => nomatch h) ?_
          refine x_py 22 (.int .i64 k3628) rfl (by kernel_rfl) (tg := 127) (by kernel_rfl) (congrArg Value.bool a8) (fun _ => y_move rfl) (fun h => nomatch h) ?_
          refine x_py 23 (.int .i64 (w64 (k3628 - 1))) rfl (by kernel_rfl) (tg := 127) (by kernel_rfl) (congrArg Value.bool a8) (fun _ => y_sub rfl rfl) (fun h => nomatch h) ?_
          refine x_py 24 (.slice e8 e9 f0) rfl (by kernel_rfl) (tg := 127) (by kernel_rfl) (congrArg Value.bool a8) (fun _ => y_move rfl) (fun h => nomatch h) ?_
          refine x_py 25 (.int .i64 k3628) rfl (by kernel_rfl) (tg := 127) (by kernel_rfl) (congrArg Value.bool a8) (fun _ => y_move rfl) (fun h => nomatch h) ?_
          refine x_py 26 (.int .i64 (w64 (k3628 - 1))) rfl (by kernel_rfl) (tg := 127) (by kernel_rfl) (congrArg Value.bool a8) (fun _ => y_sub rfl rfl) (fun h => nomatch h) ?_
          obtain ⟨x3699, H7, hs⟩ := bind_some hs
          obtain ⟨H8, P1, P2, P3, H9, i9, P4⟩ := os_idx Sl37 Sz3 b5 H7
          refine x_py 27 (.pointer (some ⟨H8, 0 + Int.toNat (w64 (k3628 - 1)) * 1, none⟩)) rfl (by kernel_rfl) (tg := 127) (by kernel_rfl) (congrArg Value.bool a8) (fun _ => H9 _ _ _ _ _ _ _ _ _ rfl rfl) (fun h => nomatch h) ?_
          refine x_py 29 (.int .i64 k3675) rfl (by kernel_rfl) (tg := 127) (by kernel_rfl) (congrArg Value.bool a8) (fun _ => y_move rfl) (fun h => nomatch h) ?_
          refine x_two (i := 21) (j := 28) (by kernel_rfl) ?_ ?_
          ·skip
           refine xk_valy (b := true) (.func (.func 102) #[] #[(.pointer (some ⟨vg1, 0, none⟩))]) rfl (tg := 127) (by kernel_rfl) (congrArg Value.bool a8) (y_load rfl ((box_load Ag73 Sz73 a0 [(.int .i64 l.1), (.func (.func 100) #[] #[(.pointer (some ⟨vg1, 0, none⟩))]), (.func (.func 101) #[] #[(.pointer (some ⟨vg1, 0, none⟩))])] [(.func (.func 102) #[] #[(.pointer (some ⟨vg1, 0, none⟩))])] [] rfl rfl (fun _ => rfl)) _ (Chg.refl _ _))) rfl (fun h => nomatch h) ?_
           refine x_one (i := 28) (by kernel_rfl) ?_
           refine xk_valy (b := true) (.int .i64 x3699) rfl (tg := 127) (by kernel_rfl) (congrArg Value.bool a8) (y_load rfl ((at_load_int Ag3 Sz3 i9) _ (Chg.refl _ _))) rfl (fun h => nomatch h) ?_
           refine x_one (i := 30) (by kernel_rfl) ?_
           obtain ⟨r3702, m6, hs⟩ := bind_some hs
           refine xk_callby (b := true) rfl (tg := 127) (by kernel_rfl) (congrArg Value.bool a8) rfl Bd102 rfl (c_impl_chainer__direct_3__g (M := M) (w64 (k3628 - 1)) x3699 k3675 (b0.1, b0.2.1, b0.2.2.1, b0.2.2.2.1, b0.2.2.2.2.1, b0.2.2.2.2.2.1, b0.2.2.2.2.2.2) (show RBox M _ vg1 52 [(.pointer (some ⟨vg0, 0, none⟩))] from hb1) (show RBox M _ vg0 58 [(.int .i64 b0.1), (.slice va0x1 vn0x1 vc0x1), (.slice va0x2 vn0x2 vc0x2), (.slice va0x3 vn0x3 vc0x3), (.slice va0x4 vn0x4 vc0x4), (.int .i64 b0.2.2.2.2.2.1), (.int .i64 b0.2.2.2.2.2.2)] from hb0) hl0x1 hl0x2 hl0x3 hl0x4 hO.fut m6) rfl (fun h => nomatch h) ?_
           rintro _ P5 ⟨rfl, c2⟩
           have hO := hO.perm (R := [] ++ (b8 ++ (c7 ++ (([a1]) ++ ([]))))) (by simp)
           have hl0x1 := hl0x1.ext c2
           have hl0x2 := hl0x2.ext c2
           have hl0x3 := hl0x3.ext c2
           have hl0x4 := hl0x4.ext c2
           have hb0 := hb0.ext c2
           have hb1 := hb1.ext c2
           have a0 := a0.cn c2
           have a2 := a2.ext c2
           have b5 := b5.ext c2
           have e0 := e0.ext c2
           have hrow3689 := hrow3689.cn c2
           have hMid := hMid.ext c2
           have d8 := at_ext d8 c2
           have d9 := at_ext d9 c2
           have i9 := at_ext i9 c2
           have hC := hC.ext c2
           have hO := hO.ext c2
           have hO := hO.perm (R := b8 ++ (c7 ++ (([a1]) ++ ([])))) (by simp)
           refine x_py 31 (.bool r3702) rfl (by kernel_rfl) (tg := 124) (by kernel_rfl) (congrArg Value.bool c9) (fun _ => y_pick_t (congrArg Value.bool a8) rfl) (fun h => nomatch h) ?_
           refine x_py 32 (.bool r3702) rfl (by kernel_rfl) (tg := 115) (by kernel_rfl) (congrArg Value.bool a7) (fun _ => y_pick_f (congrArg Value.bool c9) rfl) (fun h => nomatch h) ?_
           refine x_p 33 (.bool r3702) rfl (by kernel_rfl)  (fun _ => y_pick_t (congrArg Value.bool a7) rfl) (fun h => nomatch h) ?_
           refine x_end (by kernel_rfl) ?_
           clear hS
           cases hs
           exact ⟨_, fr_ovl 155 ⟨rfl, rfl, rfl, rfl, rfl, rfl, rfl, rfl, rfl, trivial⟩, hMid⟩
          ·skip
           refine xk_valy (b := true) (.int .i64 x3699) rfl (tg := 127) (by kernel_rfl) (congrArg Value.bool a8) (y_load rfl ((at_load_int Ag3 Sz3 i9) _ (Chg.refl _ _))) rfl (fun h => nomatch h) ?_
           refine x_one (i := 21) (by kernel_rfl) ?_
           refine xk_valy (b := true) (.func (.func 102) #[] #[(.pointer (some ⟨vg1, 0, none⟩))]) rfl (tg := 127) (by kernel_rfl) (congrArg Value.bool a8) (y_load rfl ((box_load Ag73 Sz73 a0 [(.int .i64 l.1), (.func (.func 100) #[] #[(.pointer (some ⟨vg1, 0, none⟩))]), (.func (.func 101) #[] #[(.pointer (some ⟨vg1, 0, none⟩))])] [(.func (.func 102) #[] #[(.pointer (some ⟨vg1, 0, none⟩))])] [] rfl rfl (fun _ => rfl)) _ (Chg.refl _ _))) rfl (fun h => nomatch h) ?_
           refine x_one (i := 30) (by kernel_rfl) ?_
           obtain ⟨r3702, m6, hs⟩ := bind_some hs
           refine xk_callby (b := true) rfl (tg := 127) (by kernel_rfl) (congrArg Value.bool a8) rfl Bd102 rfl (c_impl_chainer__direct_3__g (M := M) (w64 (k3628 - 1)) x3699 k3675 (b0.1, b0.2.1, b0.2.2.1, b0.2.2.2.1, b0.2.2.2.2.1, b0.2.2.2.2.2.1, b0.2.2.2.2.2.2) (show RBox M _ vg1 52 [(.pointer (some ⟨vg0, 0, none⟩))] from hb1) (show RBox M _ vg0 58 [(.int .i64 b0.1), (.slice va0x1 vn0x1 vc0x1), (.slice va0x2 vn0x2 vc0x2), (.slice va0x3 vn0x3 vc0x3), (.slice va0x4 vn0x4 vc0x4), (.int .i64 b0.2.2.2.2.2.1), (.int .i64 b0.2.2.2.2.2.2)] from hb0) hl0x1 hl0x2 hl0x3 hl0x4 hO.fut m6) rfl (fun h => nomatch h) ?_
           rintro _ P6 ⟨rfl, c3⟩
           have hO := hO.perm (R := [] ++ (b8 ++ (c7 ++ (([a1]) ++ ([]))))) (by simp)
           have hl0x1 := hl0x1.ext c3
           have hl0x2 := hl0x2.ext c3
           have hl0x3 := hl0x3.ext c3
           have hl0x4 := hl0x4.ext c3
           have hb0 := hb0.ext c3
           have hb1 := hb1.ext c3
           have a0 := a0.cn c3
           have a2 := a2.ext c3
           have b5 := b5.ext c3
           have e0 := e0.ext c3
           have hrow3689 := hrow3689.cn c3
           have hMid := hMid.ext c3
           have d8 := at_ext d8 c3
           have d9 := at_ext d9 c3
           have i9 := at_ext i9 c3
           have hC := hC.ext c3
           have hO := hO.ext c3
           have hO := hO.perm (R := b8 ++ (c7 ++ (([a1]) ++ ([])))) (by simp)
           refine x_py 31 (.bool r3702) rfl (by kernel_rfl) (tg := 124) (by kernel_rfl) (congrArg Value.bool c9) (fun _ => y_pick_t (congrArg Value.bool a8) rfl) (fun h => nomatch h) ?_
           refine x_py 32 (.bool r3702) rfl (by kernel_rfl) (tg := 115) (by kernel_rfl) (congrArg Value.bool a7) (fun _ => y_pick_f (congrArg Value.bool c9) rfl) (fun h => nomatch h) ?_
           refine x_p 33 (.bool r3702) rfl (by kernel_rfl)  (fun _ => y_pick_t (congrArg Value.bool a7) rfl) (fun h => nomatch h) ?_
           refine x_end (by kernel_rfl) ?_
           clear hS
           cases hs
           exact ⟨_, fr_ovl 155 ⟨rfl, rfl, rfl, rfl, rfl, rfl, rfl, rfl, rfl, trivial⟩, hMid⟩
         refine x_pn 20 rfl (by kernel_rfl) (tg := 127) (by kernel_rfl) (congrArg Value.bool a8) (fun h => nomatch h) ?_
         refine x_pn 21 rfl (by kernel_rfl) (tg := 127) (by kernel_rfl) (congrArg Value.bool a8) (fun h => nomatch h) ?_
         refine x_pn 22 rfl (by kernel_rfl) (tg := 127) (by kernel_rfl) (congrArg Value.bool a8) (fun h => nomatch h) ?_
         refine x_pn 23 rfl (by kernel_rfl) (tg := 127) (by kernel_rfl) (congrArg Value.bool a8) (fun h => nomatch h) ?_
         refine x_pn 24 rfl (by kernel_rfl) (tg := 127) (by kernel_rfl) (congrArg Value.bool a8) (fun h => nomatch h) ?_
         refine x_pn 25 rfl (by kernel_rfl) (tg := 127) (by kernel_rfl) (congrArg Value.bool a8) (fun h => nomatch h) ?_
         refine x_pn 26 rfl (by kernel_rfl) (tg := 127) (by kernel_rfl) (congrArg Value.bool a8) (fun h => nomatch h) ?_
         refine x_pn 27 rfl (by kernel_rfl) (tg := 127) (by kernel_rfl) (congrArg Value.bool a8) (fun h => nomatch h) ?_
         refine x_pn 28 rfl (by kernel_rfl) (tg := 127) (by kernel_rfl) (congrArg Value.bool a8) (fun h => nomatch h) ?_
         refine x_pn 29 rfl (by kernel_rfl) (tg := 127) (by kernel_rfl) (congrArg Value.bool a8) (fun h => nomatch h) ?_
         refine x_one (i := 30) (by kernel_rfl) ?_
         refine xk_no (b := true) rfl (tg := 127) (by kernel_rfl) (congrArg Value.bool a8) rfl (fun h => nomatch h) ?_
         refine x_py 31 (.bool false) rfl (by kernel_rfl) (tg := 124) (by kernel_rfl) (congrArg Value.bool c9) (fun _ => y_pick_f (congrArg Value.bool a8) rfl) (fun h => nomatch h) ?_
         refine x_py 32 (.bool false) rfl (by kernel_rfl) (tg := 115) (by kernel_rfl) (congrArg Value.bool a7) (fun _ => y_pick_f (congrArg Value.bool c9) rfl) (fun h => nomatch h) ?_
         refine x_p 33 (.bool false) rfl (by kernel_rfl)  (fun _ => y_pick_t (congrArg Value.bool a7) rfl) (fun h => nomatch h) ?_
         refine x_end (by kernel_rfl) ?_
         clear hS
         cases hs
         exact ⟨_, fr_ovl 155 ⟨rfl, rfl, rfl, rfl, rfl, rfl, rfl, rfl, rfl, trivial⟩, hMid⟩
        refine x_pn 11 rfl (by kernel_rfl) (tg := 118) (by kernel_rfl) (congrArg Value.bool e1) (fun _ => hS) ?_
        refine x_pn 12 rfl (by kernel_rfl) (tg := 118) (by kernel_rfl) (congrArg Value.bool e1) (fun _ => hS) ?_
        refine x_pn 13 rfl (by kernel_rfl) (tg := 118) (by kernel_rfl) (congrArg Value.bool e1) (fun _ => hS) ?_
        refine x_one (i := 14) (by kernel_rfl) ?_
        refine xk_no (b := true) rfl (tg := 118) (by kernel_rfl) (congrArg Value.bool e1) rfl (fun h => nomatch h) ?_
        refine x_py 15 (.bool false) rfl (by kernel_rfl) (tg := 115) (by kernel_rfl) (congrArg Value.bool a7) (fun _ => y_pick_f (congrArg Value.bool e1) rfl) (fun h => nomatch h) ?_
        refine x_py 16 (.bool false) rfl (by kernel_rfl) (tg := 115) (by kernel_rfl) (congrArg Value.bool a7) (fun _ => y_move rfl) (fun h => nomatch h) ?_
        refine x_py 17 (.int .i64 k3628) rfl (by kernel_rfl) (tg := 124) (by kernel_rfl) (by rfl) (fun _ => y_move rfl) (fun h => nomatch h) ?_
        refine x_py 18 (.bool (decide (0 < k3628))) rfl (by kernel_rfl) (tg := 124) (by kernel_rfl) (by rfl) (fun _ => y_gtr rfl rfl) (fun h => nomatch h) ?_
        refine x_py 19 (.bool (decide (0 < k3628))) rfl (by kernel_rfl) (tg := 124) (by kernel_rfl) (by rfl) (fun _ => y_move rfl) (fun h => nomatch h) ?_
        rcases bif_some hs with ⟨a9, hs⟩ | ⟨a9, hs⟩
        ·skip
         refine x_py 20 (.pointer (some ⟨a1, 3, none⟩)) rfl (by kernel_rfl) (tg := 127) (by kernel_rfl) (congrArg Value.bool a9) (fun _ => y_faddr rfl Fa105x3) (fun h => nomatch h) ?_
         refine x_py 22 (.int .i64 k3628) rfl (by kernel_rfl) (tg := 127) (by kernel_rfl) (congrArg Value.bool a9) (fun _ => y_move rfl) (fun h => nomatch h) ?_
         refine x_py 23 (.int .i64 (w64 (k3628 - 1))) rfl (by kernel_rfl) (tg := 127) (by kernel_rfl) (congrArg Value.bool a9) (fun _ => y_sub rfl rfl) (fun h => nomatch h) ?_
         refine x_py 24 (.slice e8 e9 f0) rfl (by kernel_rfl) (tg := 127) (by kernel_rfl) (congrArg Value.bool a9) (fun _ => y_move rfl) (fun h => nomatch h) ?_
         refine x_py 25 (.int .i64 k3628) rfl (by kernel_rfl) (tg := 127) (by kernel_rfl) (congrArg Value.bool a9) (fun _ => y_move rfl) (fun h => nomatch h) ?_
         refine x_py 26 (.int .i64 (w64 (k3628 - 1))) rfl (by kernel_rfl) (tg := 127) (by kernel_rfl) (congrArg Value.bool a9) (fun _ => y_sub rfl rfl) (fun h => nomatch h) ?_
         obtain ⟨x3706, I0, hs⟩ := bind_some hs
         obtain ⟨I1, P7, P8, P9, I2, j0, Q0⟩ := os_idx Sl37 Sz3 b5 I0
         refine x_py 27 (.pointer (some ⟨I1, 0 + Int.toNat (w64 (k3628 - 1)) * 1, none⟩)) rfl (by kernel_rfl) (tg := 127) (by kernel_rfl) (congrArg Value.bool a9) (fun _ => I2 _ _ _ _ _ _ _ _ _ rfl rfl) (fun h => nomatch h) ?_
         refine x_py 29 (.int .i64 k3675) rfl (by kernel_rfl) (tg := 127) (by kernel_rfl) (congrArg Value.bool a9) (fun _ => y_move rfl) (fun h => nomatch h) ?_
         refine x_two (i := 21) (j := 28) (by kernel_rfl) ?_ ?_
         ·skip
          refine xk_valy (b := true) (.func (.func 102) #[] #[(.pointer (some ⟨vg1, 0, none⟩))]) rfl (tg := 127) (by kernel_rfl) (congrArg Value.bool a9) (y_load rfl ((box_load Ag73 Sz73 a0 [(.int .i64 l.1), (.func (.func 100) #[] #[(.pointer (some ⟨vg1, 0, none⟩))]), (.func (.func 101) #[] #[(.pointer (some ⟨vg1, 0, none⟩))])] [(.func (.func 102) #[] #[(.pointer (some ⟨vg1, 0, none⟩))])] [] rfl rfl (fun _ => rfl)) _ (Chg.refl _ _))) rfl (fun h => nomatch h) ?_
          refine x_one (i := 28) (by kernel_rfl) ?_
          refine xk_valy (b := true) (.int .i64 x3706) rfl (tg := 127) (by kernel_rfl) (congrArg Value.bool a9) (y_load rfl ((at_load_int Ag3 Sz3 j0) _ (Chg.refl _ _))) rfl (fun h => nomatch h) ?_
          refine x_one (i := 30) (by kernel_rfl) ?_
          obtain ⟨r3709, m7, hs⟩ := bind_some hs
          refine xk_callby (b := true) rfl (tg := 127) (by kernel_rfl) (congrArg Value.bool a9) rfl Bd102 rfl (c_impl_chainer__direct_3__g (M := M) (w64 (k3628 - 1)) x3706 k3675 (b0.1, b0.2.1, b0.2.2.1, b0.2.2.2.1, b0.2.2.2.2.1, b0.2.2.2.2.2.1, b0.2.2.2.2.2.2) (show RBox M _ vg1 52 [(.pointer (some ⟨vg0, 0, none⟩))] from hb1) (show RBox M _ vg0 58 [(.int .i64 b0.1), (.slice va0x1 vn0x1 vc0x1), (.slice va0x2 vn0x2 vc0x2), (.slice va0x3 vn0x3 vc0x3), (.slice va0x4 vn0x4 vc0x4), (.int .i64 b0.2.2.2.2.2.1), (.int .i64 b0.2.2.2.2.2.2)] from hb0) hl0x1 hl0x2 hl0x3 hl0x4 hO.fut m7) rfl (fun h => nomatch h) ?_
          rintro _ Q1 ⟨rfl, c4⟩
          have hO := hO.perm (R := [] ++ (b8 ++ (c7 ++ (([a1]) ++ ([]))))) (by simp)
          have hl0x1 := hl0x1.ext c4
          have hl0x2 := hl0x2.ext c4
          have hl0x3 := hl0x3.ext c4
          have hl0x4 := hl0x4.ext c4
          have hb0 := hb0.ext c4
          have hb1 := hb1.ext c4
          have a0 := a0.cn c4
          have a2 := a2.ext c4
          have b5 := b5.ext c4
          have e0 := e0.ext c4
          have hrow3689 := hrow3689.cn c4
          have hMid := hMid.ext c4
          have d8 := at_ext d8 c4
          have d9 := at_ext d9 c4
          have j0 := at_ext j0 c4
          have hC := hC.ext c4
          have hO := hO.ext c4
          have hO := hO.perm (R := b8 ++ (c7 ++ (([a1]) ++ ([])))) (by simp)
          refine x_py 31 (.bool r3709) rfl (by kernel_rfl) (tg := 124) (by kernel_rfl) (by rfl) (fun _ => y_pick_t (congrArg Value.bool a9) rfl) (fun h => nomatch h) ?_
          refine x_py 32 (.bool r3709) rfl (by kernel_rfl) (tg := 115) (by kernel_rfl) (congrArg Value.bool a7) (fun _ => y_pick_f (by rfl) rfl) (fun h => nomatch h) ?_
          refine x_p 33 (.bool r3709) rfl (by kernel_rfl)  (fun _ => y_pick_t (congrArg Value.bool a7) rfl) (fun h => nomatch h) ?_
          refine x_end (by kernel_rfl) ?_
          clear hS
          cases hs
          exact ⟨_, fr_ovl 155 ⟨rfl, rfl, rfl, rfl, rfl, rfl, rfl, rfl, rfl, trivial⟩, hMid⟩
         ·skip
          refine xk_valy (b := true) (.int .i64 x3706) rfl (tg := 127) (by kernel_rfl) (congrArg Value.bool a9) (y_load rfl ((at_load_int Ag3 Sz3 j0) _ (Chg.refl _ _))) rfl (fun h => nomatch h) ?_
          refine x_one (i := 21) (by kernel_rfl) ?_
          refine xk_valy (b := true) (.func (.func 102) #[] #[(.pointer (some ⟨vg1, 0, none⟩))]) rfl (tg := 127) (by kernel_rfl) (congrArg Value.bool a9) (y_load rfl ((box_load Ag73 Sz73 a0 [(.int .i64 l.1), (.func (.func 100) #[] #[(.pointer (some ⟨vg1, 0, none⟩))]), (.func (.func 101) #[] #[(.pointer (some ⟨vg1, 0, none⟩))])] [(.func (.func 102) #[] #[(.pointer (some ⟨vg1, 0, none⟩))])] [] rfl rfl (fun _ => rfl)) _ (Chg.refl _ _))) rfl (fun h => nomatch h) ?_
          refine x_one (i := 30) (by kernel_rfl) ?_
          obtain ⟨r3709, m7, hs⟩ := bind_some hs
          refine xk_callby (b := true) rfl (tg := 127) (by kernel_rfl) (congrArg Value.bool a9) rfl Bd102 rfl (c_impl_chainer__direct_3__g (M := M) (w64 (k3628 - 1)) x3706 k3675 (b0.1, b0.2.1, b0.2.2.1, b0.2.2.2.1, b0.2.2.2.2.1, b0.2.2.2.2.2.1, b0.2.2.2.2.2.2) (show RBox M _ vg1 52 [(.pointer (some ⟨vg0, 0, none⟩))] from hb1) (show RBox M _ vg0 58 [(.int .i64 b0.1), (.slice va0x1 vn0x1 vc0x1), (.slice va0x2 vn0x2 vc0x2), (.slice va0x3 vn0x3 vc0x3), (.slice va0x4 vn0x4 vc0x4), (.int .i64 b0.2.2.2.2.2.1), (.int .i64 b0.2.2.2.2.2.2)] from hb0) hl0x1 hl0x2 hl0x3 hl0x4 hO.fut m7) rfl (fun h => nomatch h) ?_
          rintro _ Q2 ⟨rfl, c5⟩
          have hO := hO.perm (R := [] ++ (b8 ++ (c7 ++ (([a1]) ++ ([]))))) (by simp)
          have hl0x1 := hl0x1.ext c5
          have hl0x2 := hl0x2.ext c5
          have hl0x3 := hl0x3.ext c5
          have hl0x4 := hl0x4.ext c5
          have hb0 := hb0.ext c5
          have hb1 := hb1.ext c5
          have a0 := a0.cn c5
          have a2 := a2.ext c5
          have b5 := b5.ext c5
          have e0 := e0.ext c5
          have hrow3689 := hrow3689.cn c5
          have hMid := hMid.ext c5
          have d8 := at_ext d8 c5
          have d9 := at_ext d9 c5
          have j0 := at_ext j0 c5
          have hC := hC.ext c5
          have hO := hO.ext c5
          have hO := hO.perm (R := b8 ++ (c7 ++ (([a1]) ++ ([])))) (by simp)
          refine x_py 31 (.bool r3709) rfl (by kernel_rfl) (tg := 124) (by kernel_rfl) (by rfl) (fun _ => y_pick_t (congrArg Value.bool a9) rfl) (fun h => nomatch h) ?_
          refine x_py 32 (.bool r3709) rfl (by kernel_rfl) (tg := 115) (by kernel_rfl) (congrArg Value.bool a7) (fun _ => y_pick_f (by rfl) rfl) (fun h => nomatch h) ?_
          refine x_p 33 (.bool r3709) rfl (by kernel_rfl)  (fun _ => y_pick_t (congrArg Value.bool a7) rfl) (fun h => nomatch h) ?_
          refine x_end (by kernel_rfl) ?_
          clear hS
          cases hs
          exact ⟨_, fr_ovl 155 ⟨rfl, rfl, rfl, rfl, rfl, rfl, rfl, rfl, rfl, trivial⟩, hMid⟩
        refine x_pn 20 rfl (by kernel_rfl) (tg := 127) (by kernel_rfl) (congrArg Value.bool a9) (fun h => nomatch h) ?_
        refine x_pn 21 rfl (by kernel_rfl) (tg := 127) (by kernel_rfl) (congrArg Value.bool a9) (fun h => nomatch h) ?_
        refine x_pn 22 rfl (by kernel_rfl) (tg := 127) (by kernel_rfl) (congrArg Value.bool a9) (fun h => nomatch h) ?_
        refine x_pn 23 rfl (by kernel_rfl) (tg := 127) (by kernel_rfl) (congrArg Value.bool a9) (fun h => nomatch h) ?_
        refine x_pn 24 rfl (by kernel_rfl) (tg := 127) (by kernel_rfl) (congrArg Value.bool a9) (fun h => nomatch h) ?_
        refine x_pn 25 rfl (by kernel_rfl) (tg := 127) (by kernel_rfl) (congrArg Value.bool a9) (fun h => nomatch h) ?_
        refine x_pn 26 rfl (by kernel_rfl) (tg := 127) (by kernel_rfl) (congrArg Value.bool a9) (fun h => nomatch h) ?_
        refine x_pn 27 rfl (by kernel_rfl) (tg := 127) (by kernel_rfl) (congrArg Value.bool a9) (fun h => nomatch h) ?_
        refine x_pn 28 rfl (by kernel_rfl) (tg := 127) (by kernel_rfl) (congrArg Value.bool a9) (fun h => nomatch h) ?_
        refine x_pn 29 rfl (by kernel_rfl) (tg := 127) (by kernel_rfl) (congrArg Value.bool a9) (fun h => nomatch h) ?_
        refine x_one (i := 30) (by kernel_rfl) ?_
        refine xk_no (b := true) rfl (tg := 127) (by kernel_rfl) (congrArg Value.bool a9) rfl (fun h => nomatch h) ?_
        refine x_py 31 (.bool false) rfl (by kernel_rfl) (tg := 124) (by kernel_rfl) (by rfl) (fun _ => y_pick_f (congrArg Value.bool a9) rfl) (fun h => nomatch h) ?_
        refine x_py 32 (.bool false) rfl (by kernel_rfl) (tg := 115) (by kernel_rfl) (congrArg Value.bool a7) (fun _ => y_pick_f (by rfl) rfl) (fun h => nomatch h) ?_
        refine x_p 33 (.bool false) rfl (by kernel_rfl)  (fun _ => y_pick_t (congrArg Value.bool a7) rfl) (fun h => nomatch h) ?_
        refine x_end (by kernel_rfl) ?_
        clear hS
        cases hs
        exact ⟨_, fr_ovl 155 ⟨rfl, rfl, rfl, rfl, rfl, rfl, rfl, rfl, rfl, trivial⟩, hMid⟩
       refine x_pn 8 rfl (by kernel_rfl) (tg := 115) (by kernel_rfl) (congrArg Value.bool a7) (fun _ => hS) ?_
       refine x_pn 9 rfl (by kernel_rfl) (tg := 115) (by kernel_rfl) (congrArg Value.bool a7) (fun _ => hS) ?_
       refine x_pn 10 rfl (by kernel_rfl) (tg := 115) (by kernel_rfl) (congrArg Value.bool a7) (fun _ => hS) ?_
       refine x_pnu 11 rfl (by kernel_rfl) (tg := 118) (by kernel_rfl) rfl (fun _ => hS) ?_
       refine x_pnu 12 rfl (by kernel_rfl) (tg := 118) (by kernel_rfl) rfl (fun _ => hS) ?_
       refine x_pnu 13 rfl (by kernel_rfl) (tg := 118) (by kernel_rfl) rfl (fun _ => hS) ?_
       refine x_one (i := 14) (by kernel_rfl) ?_
       refine xk_nou (b := true) rfl (tg := 118) (by kernel_rfl) rfl rfl (fun h => nomatch h) ?_
       refine x_pn 15 rfl (by kernel_rfl) (tg := 115) (by kernel_rfl) (congrArg Value.bool a7) (fun h => nomatch h) ?_
       refine x_pn 16 rfl (by kernel_rfl) (tg := 115) (by kernel_rfl) (congrArg Value.bool a7) (fun h => nomatch h) ?_
       refine x_pnu 17 rfl (by kernel_rfl) (tg := 124) (by kernel_rfl) rfl (fun h => nomatch h) ?_
       refine x_pnu 18 rfl (by kernel_rfl) (tg := 124) (by kernel_rfl) rfl (fun h => nomatch h) ?_
       refine x_pnu 19 rfl (by kernel_rfl) (tg := 124) (by kernel_rfl) rfl (fun h => nomatch h) ?_
       refine x_pnu 20 rfl (by kernel_rfl) (tg := 127) (by kernel_rfl) rfl (fun h => nomatch h) ?_
       refine x_pnu 21 rfl (by kernel_rfl) (tg := 127) (by kernel_rfl) rfl (fun h => nomatch h) ?_
       refine x_pnu 22 rfl (by kernel_rfl) (tg := 127) (by kernel_rfl) rfl (fun h => nomatch h) ?_
       refine x_pnu 23 rfl (by kernel_rfl) (tg := 127) (by kernel_rfl) rfl (fun h => nomatch h) ?_
       refine x_pnu 24 rfl (by kernel_rfl) (tg := 127) (by kernel_rfl) rfl (fun h => nomatch h) ?_
       refine x_pnu 25 rfl (by kernel_rfl) (tg := 127) (by kernel_rfl) rfl (fun h => nomatch h) ?_
       refine x_pnu 26 rfl (by kernel_rfl) (tg := 127) (by kernel_rfl) rfl (fun h => nomatch h) ?_
       refine x_pnu 27 rfl (by kernel_rfl) (tg := 127) (by kernel_rfl) rfl (fun h => nomatch h) ?_
       refine x_pnu 28 rfl (by kernel_rfl) (tg := 127) (by kernel_rfl) rfl (fun h => nomatch h) ?_
       refine x_pnu 29 rfl (by kernel_rfl) (tg := 127) (by kernel_rfl) rfl (fun h => nomatch h) ?_
       refine x_one (i := 30) (by kernel_rfl) ?_
       refine xk_nou (b := true) rfl (tg := 127) (by kernel_rfl) rfl rfl (fun h => nomatch h) ?_
       refine x_pnu 31 rfl (by kernel_rfl) (tg := 124) (by kernel_rfl) rfl (fun h => nomatch h) ?_
       refine x_pn 32 rfl (by kernel_rfl) (tg := 115) (by kernel_rfl) (congrArg Value.bool a7) (fun h => nomatch h) ?_
       refine x_p 33 (.bool false) rfl (by kernel_rfl)  (fun _ => y_pick_f (congrArg Value.bool a7) rfl) (fun h => nomatch h) ?_
       refine x_end (by kernel_rfl) ?_
       clear hS
       cases hs
       exact ⟨_, fr_ovl 155 ⟨rfl, rfl, rfl, rfl, rfl, rfl, rfl, rfl, rfl, trivial⟩, hMid⟩
      rintro d2 m5 ⟨σ, rfl, e2⟩
      have hl0x1 := hl0x1.ext e2
      have hl0x2 := hl0x2.ext e2
      have hl0x3 := hl0x3.ext e2
      have hl0x4 := hl0x4.ext e2
      have hb0 := hb0.ext e2
      have hb1 := hb1.ext e2
      have a0 := a0.cn e2
      have a2 := a2.ext e2
      have b5 := b5.ext e2
      have hC := hC.ext e2
      have hO := hO.ext e2
      rcases bif_some hs with ⟨m8, hs⟩ | ⟨m8, hs⟩
      ·refine c_condT (congrArg Value.bool m8) ?_
       refine c_sr ?_
       refine pl_val (.slice e8 e9 f0) (y_move rfl) ?_
       refine pl_val (.int .i64 k3675) (y_move rfl) ?_
       obtain ⟨s2, m9, I3, s3, e3, s4⟩ := new_block m5 [(.int .i64 k3675)] 3
       refine pl_val (w' := s2) (.slice (some ⟨m9, 0, none⟩) 1 1) (y_bslice rfl (by rw [I3, s3]; kernel_rfl)) ?_
       have hl0x1 := hl0x1.ext e3
       have hl0x2 := hl0x2.ext e3
       have hl0x3 := hl0x3.ext e3
       have hl0x4 := hl0x4.ext e3
       have hb0 := hb0.ext e3
       have hb1 := hb1.ext e3
       have a0 := a0.cn e3
       have a2 := a2.ext e3
       have b5 := b5.ext e3
       have hC := hC.ext e3
       have hO := hO.new1 e3 s3 s4.lt
       have n0 := os_of_box (r := (RT.int .i64)) (M := M) (css := [[(.int .i64 k3675)]]) (fps := [([] : List Nat)]) (xs := ([k3675] : List Int)) s4 ⟨⟨rfl, rfl⟩, trivial⟩ (Nat.le_of_ble_eq_true rfl) (List.nodup_cons.2 ⟨(fun h => nomatch h), List.nodup_nil⟩)
       have n0 : (RT.os 3 (RT.int .i64)).val M s2 (.slice (some ⟨m9, 0, none⟩) 1 1) [k3675] [m9] := n0
       obtain ⟨y3716, I4, hs⟩ := bind_some hs
       have hO := hO.fr1
       obtain ⟨n1, n2, n3, I5, I6, I7, f1, I8, n4⟩ := app_os Rw37 I4 b5 n0 hO.inM (fun g hg hq => hO.apart g hq (mem_l hg))
       have g1 := os_block b5
       refine pl_val (w' := I5) (.slice n1 n2 n3) (y_append rfl rfl (I7 _)) ?_
       have hO := hO.fr1
       have hO := hO.fr1
       have hl0x1 := hl0x1.mt f1 hO g1
       have hl0x2 := hl0x2.mt f1 hO g1
       have hl0x3 := hl0x3.mt f1 hO g1
       have hl0x4 := hl0x4.mt f1 hO g1
       have hb0 := hb0.mut f1 (fun q hq => hO.inM q (g1 q hq))
       have hb1 := hb1.mut f1 (fun q hq => hO.inM q (g1 q hq))
       have a0 := a0.ap f1 hO g1 (mem_r (mem_r (mem_l (List.mem_singleton.2 rfl))))
       have a2 := a2.ma f1 hO g1 (fun _ e => (mem_r (mem_l (e))))
       have hC := hC.st f1 hO g1
       have hO := hO.eat f1 I8 (os_nodup n4) n4.fpl
       refine pl_val (.slice n1 n2 n3) (y_assign rfl) ?_
       refine c_nil ?_
       refine wp_exit ?_
       cases hs
       have hO := hO.fr2
       have hO := hO.fr2
       have hO := hO.fr2
       exact ⟨rfl, _, n1, n2, n3, I6, fr_ovl 155 ⟨rfl, rfl, rfl, rfl, rfl, rfl, rfl, trivial⟩, hC, hO, hl0x1, hl0x2, hl0x3, hl0x4, hb0, hb1, a0, a2, n4⟩
      refine c_condF (congrArg Value.bool m8) ?_
      refine wp_skip ?_
      refine c_region ?_
      refine pl_val (.int .i64 k3675) (y_move rfl) ?_
      refine pl_val (.int .i64 (w64 (k3675 + 1))) (y_add rfl rfl) ?_
      refine pl_val (.int .i64 (w64 (k3675 + 1))) (y_assign rfl) ?_
      refine c_nil ?_
      cases hs
      have hO := hO.fr2
      have hO := hO.fr2
      have hO := hO.fr2
      exact ⟨_, e8, e9, f0, c7, fr_ovl 155 ⟨rfl, rfl, rfl, rfl, rfl, rfl, rfl, congrArg (Value.int .i64) hw, trivial⟩, hC, hO, hl0x1, hl0x2, hl0x3, hl0x4, hb0, hb1, a0, a2, b5⟩
     ·skip
      have hO := hO.fr2
      have hO := hO.fr2
      have hO := hO.fr2
      exact ⟨_, i1, i2, i3, i4, fr_ovl 155 ⟨rfl, rfl, rfl, rfl, rfl, rfl, rfl, rfl, trivial⟩, hC, hO, hl0x1, hl0x2, hl0x3, hl0x4, hb0, hb1, a0, a2, m4⟩
     cases o3677 with
     | nx _ => exact True.intro
     | rt r_ =>
      have hs := after_rt hs
      intro d2 h7 hK
      cases hs
      exact hK
     | br s3673 =>
      have hs := after_br hs
      rintro d2 a6 ⟨σ, i5, i6, i7, j7, rfl, hC, hO, hl0x1, hl0x2, hl0x3, hl0x4, hb0, hb1, a0, a2, n5⟩
      refine c_sr ?_
      refine pl_val (.slice i5 i6 i7) (y_move rfl) ?_
      refine pl_val (.int .i64 (s3673.length : Int)) (y_len' Sl37 (os_len n5) rfl) ?_
      refine pl_val (.int .i64 k3628) (y_move rfl) ?_
      refine pl_val (.bool ((s3673.length : Int) == k3628)) (y_eql rfl rfl) ?_
      refine c_nil ?_
      rcases bif_some hs with ⟨n6, hs⟩ | ⟨n6, hs⟩
      ·refine c_condT (congrArg Value.bool n6) ?_
       refine wp_exit ?_
       cases hs
       have hO := hO.fr2
       have hO := hO.fr2
       have hO := hO.fr2
       exact ⟨rfl, _, i5, i6, i7, j7, fr_ovl 155 ⟨rfl, rfl, rfl, rfl, rfl, trivial⟩, hC, hO, hl0x1, hl0x2, hl0x3, hl0x4, hb0, hb1, a0, a2, n5⟩
      refine c_condF (congrArg Value.bool n6) ?_
      refine wp_skip ?_
      refine c_region ?_
      refine pl_val (.int .i64 k3628) (y_move rfl) ?_
      refine pl_val (.int .i64 (w64 (k3628 + 1))) (y_add rfl rfl) ?_
      refine pl_val (.int .i64 (w64 (k3628 + 1))) (y_assign rfl) ?_
      refine c_nil ?_
      cases hs
      have hO := hO.fr2
      have hO := hO.fr2
      have hO := hO.fr2
      exact ⟨_, i5, i6, i7, j7, fr_ovl 155 ⟨rfl, rfl, rfl, rfl, rfl, rfl, congrArg (Value.int .i64) hw, trivial⟩, hC, hO, hl0x1, hl0x2, hl0x3, hl0x4, hb0, hb1, a0, a2, n5⟩
    ·skip
     have hO := hO.fr2
     have hO := hO.fr2
     have hO := hO.fr2
     exact ⟨_, (some ⟨i0, 0, none⟩), 0, 0, ([i0]), fr_ovl 155 ⟨rfl, rfl, rfl, rfl, rfl, rfl, rfl, trivial⟩, hC, hO, hl0x1, hl0x2, hl0x3, hl0x4, hb0, hb1, a0, a2, m3⟩
    cases o3630 with
    | nx _ => exact True.intro
    | rt r_ =>
     have hs := after_rt hs
     intro d2 h7 hK
     cases hs
     exact hK
    | br s3626 =>
     have hs := after_br hs
     rintro d2 b3 ⟨σ, h4, h5, h6, k4, rfl, hC, hO, hl0x1, hl0x2, hl0x3, hl0x4, hb0, hb1, a0, a2, n7⟩
     refine c_sr ?_
     refine pl_val (.slice h4 h5 h6) (y_move rfl) ?_
     refine pl_val (.int .i64 (s3626.length : Int)) (y_len' Sl37 (os_len n7) rfl) ?_
     refine pl_val (.int .i64 s1861) (y_move rfl) ?_
     refine pl_val (.bool ((s3626.length : Int) == s1861)) (y_eql rfl rfl) ?_
     refine c_nil ?_
     rcases bif_some hs with ⟨n8, hs⟩ | ⟨n8, hs⟩
     ·refine c_condT (congrArg Value.bool n8) ?_
      refine c_sr ?_
      refine pl_val (.slice h4 h5 h6) (y_move rfl) ?_
      refine pl_val (.slice h4 h5 h6) (y_assign rfl) ?_
      refine c_nil ?_
      refine wp_ret ?_
      obtain ⟨u3720, I9, hs⟩ := bind_some hs
      cases hs
      have hO := hO.fr1
      have hO := hO.drop
      have hO := hO.fr1
      have hO := hO.drop
      exact ⟨_, h4, h5, h6, k4, fr_ovl 155 ⟨rfl, trivial⟩, hC, n7, (os_nn n7 I9), hO.top⟩
     refine c_condF (congrArg Value.bool n8) ?_
     refine wp_skip ?_
     refine c_region ?_
     refine pl_val (.int .i64 s1861) (y_move rfl) ?_
     refine pl_val (.int .i64 (w64 (s1861 + 1))) (y_add rfl rfl) ?_
     refine pl_val (.int .i64 (w64 (s1861 + 1))) (y_assign rfl) ?_
     refine c_nil ?_
     cases hs
     have hO := hO.drop
     have hO := hO.drop
     exact ⟨_, fr_ovl 155 ⟨rfl, rfl, rfl, rfl, trivial⟩, hC, hO, hl0x1, hl0x2, hl0x3, hl0x4, hb0, hb1, a0⟩
  refine c_condF (congrArg Value.bool k5) ?_
  refine wp_exit ?_
  cases hs
  exact ⟨rfl, _, fr_ovl 155 trivial, hC, hO, hl0x1, hl0x2, hl0x3, hl0x4, hb0, hb1, a0⟩
 ·skip
  exact ⟨_, fr_ovl 155 ⟨rfl, rfl, rfl, rfl, trivial⟩, hC, hO, hl0x1, hl0x2, hl0x3, hl0x4, hb0, hb1, a0⟩
 cases o1865 with
 | nx _ => exact True.intro
 | rt r_ =>
  have hs := after_rt hs
  intro d2 h7 hK
  cases hs
  exact hK
 | br s1861 =>
  have hs := after_br hs
  rintro d2 b6 ⟨σ, rfl, hC, hO, hl0x1, hl0x2, hl0x3, hl0x4, hb0, hb1, a0⟩
  refine c_sr ?_
  refine pl_val (.slice none 0 0) (y_assign rfl) ?_
  refine c_nil ?_
  refine wp_ret ?_
  cases hs
  have hO := hO.drop
  have hO := hO.nil
  exact ⟨_, none, 0, 0, [], fr_ovl 155 ⟨rfl, trivial⟩, hC, os_nil, rfl, hO.top⟩

theorem Bd107 : Bodied Try.prog 107 := bodied Try.func107 (by kernel_rfl) rfl

theorem Bd85 : Bodied Try.prog 85 := bodied Try.func85 (by kernel_rfl) rfl

def k_impl_findChain__impl_chainer__direct (M : Nat → Prop) (w0 : World) (r : (List (Int × (List Int))) × Bool) (a : Act) (w : World) : Prop :=
  ∃ (σ : Nat → Value) (ra0 : Option Addr) (rn0 rc0 : Nat) (rf0 : List Nat), a = fr 31 (ovl σ [(6, (.slice ra0 rn0 rc0)), (7, (.bool r.2))]) ∧ Chg [] w0 w ∧ (RT.os 64 (RT.pr (RT.int .i64) (RT.os 3 (RT.int .i64)))).val M w (.slice ra0 rn0 rc0) r.1 rf0 ∧ Own (Nw w0 []) (fun _ => True) w (rf0 ++ ([]))
def s_impl_findChain__impl_chainer__direct (a_ : Int × (List (Int × (List Int)))) (most : Int) : Option ((List (Int × (List Int))) × Bool) :=
  (s_impl_newChainer (a_.1, a_.2)).bind fun r4 =>
  (bif (!r4.2) then some ([], false) else (r4.1).bind fun p10 =>
  (s_impl_chainer__direct (p10.1, p10.2.1, p10.2.2.1, p10.2.2.2.1, p10.2.2.2.2.1, p10.2.2.2.2.2.1, p10.2.2.2.2.2.2)).bind fun r17 =>
  (s_impl_chainer__shortest__chainer__direct_1_chainer__direct_2_chainer__direct_3 (r17.1, (), (), ()) most (p10.1, p10.2.1, p10.2.2.1, p10.2.2.2.1, p10.2.2.2.2.1, p10.2.2.2.2.2.1, p10.2.2.2.2.2.2)).bind fun r20 =>
  (bif (List.isEmpty r20) then some ([], false) else (s_impl_chainer__ops r20 (p10.1, p10.2.1, p10.2.2.1, p10.2.2.2.1, p10.2.2.2.2.1, p10.2.2.2.2.2.1, p10.2.2.2.2.2.2)).bind fun r26 =>
  some (r26, true)))
set_option maxHeartbeats 4000000 in
theorem c_impl_findChain__impl_chainer__direct {M : Nat → Prop} {w : World} {pa0 : Option Addr} {pn0 pc0 : Nat} (a_ : Int × (List (Int × (List Int)))) (most : Int) (h0 : (RT.rs (RT.pr (RT.int .i64) (RT.rs (RT.int .i64)))).val M w (.slice pa0 pn0 pc0) a_.2 ([])) (hM : ∀ g, w.heap.size ≤ g → M g) {r : (List (Int × (List Int))) × Bool} (hs : s_impl_findChain__impl_chainer__direct a_ most = some r) :
    Gives Try.prog 75 [(.agg #[(.int .i64 a_.1), (.slice pa0 pn0 pc0)]), (.func (.func 73) #[] #[]), (.int .i64 most)] w (fun v w' => ∃ (ra0 : Option Addr) (rn0 rc0 : Nat) (rf0 : List Nat), v = (.tuple #[(.slice ra0 rn0 rc0), (.bool r.2)]) ∧ Chg [] w w' ∧ (RT.os 64 (RT.pr (RT.int .i64) (RT.os 3 (RT.int .i64)))).val M w' (.slice ra0 rn0 rc0) r.1 rf0 ∧ Own (Nw w []) (fun _ => True) w' (rf0 ++ ([]))) := by
 refine calls_fr Try.func75 rfl Try.ntmps75 (Nat.le_of_ble_eq_true rfl) ?_
 have hO := Own.start (N := Nw w []) hM Nw.fut
 have hC := Chg.refl [] w
 unfold s_impl_findChain__impl_chainer__direct at hs
 refine wp_mono (Q := KPost (k_impl_findChain__impl_chainer__direct M w r)) ?_ (fun e a j4 h => ?_)
 rotate_left
 ·cases e
  case ret =>
   obtain ⟨σ, ra0, rn0, rc0, rf0, rfl, hrest⟩ := h
   exact ret2x Try.results75 (res_tmp rfl) (res_tmp rfl) ⟨ra0, rn0, rc0, rf0, rfl, hrest⟩
  all_goals exact (h : False).elim
 refine c_sr ?_
 obtain ⟨a2, b4, g1, f0, e0, a4⟩ := new_block w [(.int .i64 a_.1), (.slice pa0 pn0 pc0)] 30
 refine pl_val (w' := a2) (.pointer (some ⟨b4, 0, none⟩)) (y_box rfl (by rw [g1, f0]; kernel_rfl)) ?_
 have h0 := h0.ext e0
 have hC := hC.ext e0
 have hO := hO.new1 e0 f0 a4.lt
 refine pl_val (.slice none 0 0) (y_assign rfl) ?_
 refine pl_val (.bool false) (y_assign rfl) ?_
 refine c_nil ?_
 refine c_sr ?_
 refine pl_val (.agg #[(.int .i64 a_.1), (.slice pa0 pn0 pc0)]) (y_load rfl ((box_load Ag30 Sz30 a4 [] [(.int .i64 a_.1), (.slice pa0 pn0 pc0)] [] rfl rfl (fun h => nomatch h)) _ (Chg.refl _ _))) ?_
 obtain ⟨r4, g2, hs⟩ := bind_some hs
 refine pl_call Bd41 rfl (c_impl_newChainer (M := M) (a_.1, a_.2) h0 hO.fut g2) ?_
 rintro _ a1 ⟨c4, a3, rfl, c6, e1, g3⟩
 have hO := hO.perm (R := [] ++ (([b4]) ++ ([]))) (by simp)
 have g4 := Own.pastL hO c6 g3
 have hK := (show Keeps w M (PastL M [] a2 a1 (a3 ++ ([]))) from Keeps.pastL hC.size (fun g hg => (hO.inN g hg).resolve_left (fun h => nomatch h)))
 have h0 := h0.ext c6
 have a4 := a4.cn c6
 have hC := hC.ext c6
 have hO := g4
 have h0 := h0.sub (M' := (PastL M [] a2 a1 (a3 ++ ([])))) (fun g hg => .inl hg.1)
 have hO := hO.perm (R := a3 ++ (([b4]) ++ ([]))) (by simp)
 refine pl_val (.tuple #[c4, (.bool r4.2)]) (y_move rfl) ?_
 refine pl_val c4 (y_extract rfl (by kernel_rfl)) ?_
 refine pl_val (.bool r4.2) (y_extract rfl (by kernel_rfl)) ?_
 refine pl_val c4 (y_assign rfl) ?_
 refine pl_val (.bool r4.2) (y_assign rfl) ?_
 refine c_nil ?_
 refine c_seq ?_
 refine c_sr ?_
 refine pl_val (.bool r4.2) (y_move rfl) ?_
 refine pl_val (.bool (!r4.2)) (y_not rfl) ?_
 refine c_nil ?_
 rcases bif_some hs with ⟨e2, hs⟩ | ⟨e2, hs⟩
 ·refine c_condT (congrArg Value.bool e2) ?_
  refine c_sr ?_
  obtain ⟨f1, c2, g5, f2, c7, f3⟩ := new_block a1 [] 64
  refine pl_val (w' := f1) (.slice (some ⟨c2, 0, none⟩) 0 0) (y_bslice rfl (by rw [g5, f2]; kernel_rfl)) ?_
  have a4 := a4.cn c7
  have e1 := e1.ext c7
  have hC := hC.ext c7
  have hO := hO.new1 c7 f2 f3.lt
  have e3 := os_of_box (r := (RT.pr (RT.int .i64) (RT.os 3 (RT.int .i64)))) (M := (PastL M [] a2 a1 (a3 ++ ([])))) (css := []) (fps := []) (xs := ([] : List (Int × (List Int)))) f3 trivial (Nat.zero_le _) (List.nodup_cons.2 ⟨(fun h => nomatch h), List.nodup_nil⟩)
  have e3 : (RT.os 64 (RT.pr (RT.int .i64) (RT.os 3 (RT.int .i64)))).val (PastL M [] a2 a1 (a3 ++ ([]))) f1 (.slice (some ⟨c2, 0, none⟩) 0 0) [] [c2] := e3
  refine pl_val (.slice (some ⟨c2, 0, none⟩) 0 0) (y_assign rfl) ?_
  refine pl_val (.bool false) (y_assign rfl) ?_
  refine c_nil ?_
  refine wp_ret ?_
  cases hs
  have hO := hO.fr1
  have hO := hO.drop
  have hO := hO.fr1
  have hO := hO.drop
  exact ⟨_, (some ⟨c2, 0, none⟩), 0, 0, ([c2]), fr_ovl 31 ⟨rfl, rfl, trivial⟩, hC, (e3.free (Free.os (Free.pr Free.int (Free.os Free.int)))), hO.top⟩
 refine c_condF (congrArg Value.bool e2) ?_
 refine wp_skip ?_
 refine c_sr ?_
 refine pl_val c4 (y_move rfl) ?_
 refine pl_val (.func (.func 73) #[] #[]) (y_move rfl) ?_
 refine pl_val c4 (y_move rfl) ?_
 obtain ⟨p10, g6, hs⟩ := bind_some hs
 obtain ⟨a0, rfl, g7⟩ := op_get e1 g6
 obtain ⟨j5, j6, g8, a9, g9⟩ := po_open g7
 obtain ⟨j7, j8, j9, k0, rfl, rfl, h1, h2⟩ := g9
 obtain ⟨rfl, rfl⟩ := h1
 obtain ⟨k1, k2, a5, k3, rfl, rfl, h3, h4⟩ := h2
 obtain ⟨c8, c9, d0, rfl, b0⟩ := os_rel' h3
 obtain ⟨k4, k5, a6, k6, rfl, rfl, h5, h6⟩ := h4
 obtain ⟨d1, d2, d3, rfl, b1⟩ := os_rel' h5
 obtain ⟨k7, k8, a7, k9, rfl, rfl, h7, h8⟩ := h6
 obtain ⟨d4, d5, d6, rfl, b2⟩ := os_rel' h7
 obtain ⟨l0, l1, a8, l2, rfl, rfl, h9, i0⟩ := h8
 obtain ⟨d7, d8, d9, rfl, b3⟩ := os_rel' h9
 obtain ⟨l3, l4, l5, l6, rfl, rfl, i1, i2⟩ := i0
 obtain ⟨rfl, rfl⟩ := i1
 obtain ⟨rfl, rfl⟩ := i2
 have a9 : BoxV a1 a0 58 [(.int .i64 p10.1), (.slice c8 c9 d0), (.slice d1 d2 d3), (.slice d4 d5 d6), (.slice d7 d8 d9), (.int .i64 p10.2.2.2.2.2.1), (.int .i64 p10.2.2.2.2.2.2)] := a9
 have hO := hO.perm (R := ([a0]) ++ (a5 ++ (a6 ++ (a7 ++ (a8 ++ (([b4]) ++ ([]))))))) (by rw [g8]; simp)
 have hO := hO.fr4
 have hO := hO.fr4
 have hO := hO.fr4
 have hO := hO.fr4
 have hO := hO.fr4
 obtain ⟨r17, i3, hs⟩ := bind_some hs
 refine pl_callv (h := rfl) Bd73 rfl (c_impl_chainer__direct (M := (Less (Less (Less (Less (Less (PastL M [] a2 a1 (a3 ++ ([]))) ([a0])) a5) a6) a7) a8)) (p10.1, p10.2.1, p10.2.2.1, p10.2.2.2.1, p10.2.2.2.2.1, p10.2.2.2.2.2.1, p10.2.2.2.2.2.2) (show RBox (Less (Less (Less (Less (Less (PastL M [] a2 a1 (a3 ++ ([]))) ([a0])) a5) a6) a7) a8) _ a0 58 [(.int .i64 p10.1), (.slice c8 c9 d0), (.slice d1 d2 d3), (.slice d4 d5 d6), (.slice d7 d8 d9), (.int .i64 p10.2.2.2.2.2.1), (.int .i64 p10.2.2.2.2.2.2)] from ⟨a9, fun h => by simp [Less] at h⟩) ((((((Frz.os (Frz.rs Frz.int))).val (b0.sub Less.sub) Less.sub Less.not).sub Less.sub).sub Less.sub).sub Less.sub) (((((Frz.os Frz.bool)).val ((b1.sub Less.sub).sub Less.sub) Less.sub Less.not).sub Less.sub).sub Less.sub) ((((Frz.os (Frz.os Frz.int))).val (((b2.sub Less.sub).sub Less.sub).sub Less.sub) Less.sub Less.not).sub Less.sub) (((Frz.os (Frz.os Frz.int))).val ((((b3.sub Less.sub).sub Less.sub).sub Less.sub).sub Less.sub) Less.sub Less.not) ((((hO.less).less).less).less).less.fut i3) ?_
 rintro _ i4 ⟨b5, rfl, c0, b8, i5⟩
 have hO := hO.fr4
 have hO := hO.fr4
 have hO := hO.fr4
 have hO := hO.fr4
 have hO := hO.fr4
 have hO := hO.perm (R := [] ++ (([a0]) ++ (a5 ++ (a6 ++ (a7 ++ (a8 ++ (([b4]) ++ ([])))))))) (by simp)
 have a4 := a4.cn c0
 have b0 := b0.ext c0
 have b1 := b1.ext c0
 have b2 := b2.ext c0
 have b3 := b3.ext c0
 have a9 := a9.cn c0
 have hC := hC.ext c0
 have hO := Own.join hO c0 i5
 have hO := hO.perm (R := [b5] ++ (([a0]) ++ (a5 ++ (a6 ++ (a7 ++ (a8 ++ (([b4]) ++ ([])))))))) (by simp)
 have b8 : BoxV i4 b5 52 [(.pointer (some ⟨a0, 0, none⟩))] := b8
 refine pl_val (.int .i64 most) (y_move rfl) ?_
 have hO := hO.fr5
 have hO := hO.fr5
 have hO := hO.fr5
 have hO := hO.fr5
 have hO := hO.fr5
 obtain ⟨r20, i6, hs⟩ := bind_some hs
 refine pl_call Bd107 rfl (c_impl_chainer__shortest__chainer__direct_1_chainer__direct_2_chainer__direct_3 (M := (Less (Less (Less (Less (Less (Less (PastL M [] a2 a1 (a3 ++ ([]))) ([a0])) a5) a6) a7) a8) ([b5]))) (r17.1, (), (), ()) most (p10.1, p10.2.1, p10.2.2.1, p10.2.2.2.1, p10.2.2.2.2.1, p10.2.2.2.2.2.1, p10.2.2.2.2.2.2) (show RBox (Less (Less (Less (Less (Less (Less (PastL M [] a2 a1 (a3 ++ ([]))) ([a0])) a5) a6) a7) a8) ([b5])) _ a0 58 [(.int .i64 p10.1), (.slice c8 c9 d0), (.slice d1 d2 d3), (.slice d4 d5 d6), (.slice d7 d8 d9), (.int .i64 p10.2.2.2.2.2.1), (.int .i64 p10.2.2.2.2.2.2)] from ⟨a9, fun h => by simp [Less] at h⟩) (((((((Frz.os (Frz.rs Frz.int))).val (b0.sub Less.sub) Less.sub Less.not).sub Less.sub).sub Less.sub).sub Less.sub).sub Less.sub) ((((((Frz.os Frz.bool)).val ((b1.sub Less.sub).sub Less.sub) Less.sub Less.not).sub Less.sub).sub Less.sub).sub Less.sub) (((((Frz.os (Frz.os Frz.int))).val (((b2.sub Less.sub).sub Less.sub).sub Less.sub) Less.sub Less.not).sub Less.sub).sub Less.sub) ((((Frz.os (Frz.os Frz.int))).val ((((b3.sub Less.sub).sub Less.sub).sub Less.sub).sub Less.sub) Less.sub Less.not).sub Less.sub) (show RBox (Less (Less (Less (Less (Less (Less (PastL M [] a2 a1 (a3 ++ ([]))) ([a0])) a5) a6) a7) a8) ([b5])) _ b5 52 [(.pointer (some ⟨a0, 0, none⟩))] from ⟨b8, fun h => by simp [Less] at h⟩) (((((hO.less).less).less).less).less).less.fut i6) ?_
 rintro _ i7 ⟨e4, e5, e6, c5, rfl, b9, c1, i9, j0⟩
 have hO := hO.fr5
 have hO := hO.fr5
 have hO := hO.fr5
 have hO := hO.fr5
 have hO := hO.fr5
 have hO := hO.fr5
 have hO := hO.perm (R := [] ++ (([a0]) ++ (a5 ++ (a6 ++ (a7 ++ (a8 ++ (([b5]) ++ (([b4]) ++ ([]))))))))) (by simp)
 have a4 := a4.cn b9
 have b0 := b0.ext b9
 have b1 := b1.ext b9
 have b2 := b2.ext b9
 have b3 := b3.ext b9
 have a9 := a9.cn b9
 have b8 := b8.cn b9
 have hC := hC.ext b9
 have hO := Own.join hO b9 j0
 have hO := hO.perm (R := c5 ++ (([a0]) ++ (a5 ++ (a6 ++ (a7 ++ (a8 ++ (([b5]) ++ (([b4]) ++ ([]))))))))) (by simp)
 have c1 := c1.free (M' := (PastL M [] a2 a1 (a3 ++ ([])))) (Free.os Free.int)
 refine pl_val (.slice e4 e5 e6) (y_assign rfl) ?_
 refine c_nil ?_
 refine c_seq ?_
 refine c_sr ?_
 refine pl_val (.slice e4 e5 e6) (y_move rfl) ?_
 refine pl_val (.bool (List.isEmpty r20)) (y_nil Try.underlying37 rfl rfl i9) ?_
 refine c_nil ?_
 rcases bif_some hs with ⟨e7, hs⟩ | ⟨e7, hs⟩
 ·refine c_condT (congrArg Value.bool e7) ?_
  refine c_sr ?_
  obtain ⟨f4, c3, j1, f5, b6, f6⟩ := new_block i7 [] 64
  refine pl_val (w' := f4) (.slice (some ⟨c3, 0, none⟩) 0 0) (y_bslice rfl (by rw [j1, f5]; kernel_rfl)) ?_
  have a4 := a4.cn b6
  have b0 := b0.ext b6
  have b1 := b1.ext b6
  have b2 := b2.ext b6
  have b3 := b3.ext b6
  have a9 := a9.cn b6
  have b8 := b8.cn b6
  have c1 := c1.ext b6
  have hC := hC.ext b6
  have hO := hO.new1 b6 f5 f6.lt
  have e8 := os_of_box (r := (RT.pr (RT.int .i64) (RT.os 3 (RT.int .i64)))) (M := (PastL M [] a2 a1 (a3 ++ ([])))) (css := []) (fps := []) (xs := ([] : List (Int × (List Int)))) f6 trivial (Nat.zero_le _) (List.nodup_cons.2 ⟨(fun h => nomatch h), List.nodup_nil⟩)
  have e8 : (RT.os 64 (RT.pr (RT.int .i64) (RT.os 3 (RT.int .i64)))).val (PastL M [] a2 a1 (a3 ++ ([]))) f4 (.slice (some ⟨c3, 0, none⟩) 0 0) [] [c3] := e8
  refine pl_val (.slice (some ⟨c3, 0, none⟩) 0 0) (y_assign rfl) ?_
  refine pl_val (.bool false) (y_assign rfl) ?_
  refine c_nil ?_
  refine wp_ret ?_
  cases hs
  have hO := hO.fr1
  have hO := hO.drop
  have hO := hO.fr1
  have hO := hO.drop
  have hO := hO.fr1
  have hO := hO.drop
  have hO := hO.fr1
  have hO := hO.drop
  have hO := hO.fr1
  have hO := hO.drop
  have hO := hO.fr1
  have hO := hO.drop
  have hO := hO.fr1
  have hO := hO.drop
  have hO := hO.fr1
  have hO := hO.drop
  exact ⟨_, (some ⟨c3, 0, none⟩), 0, 0, ([c3]), fr_ovl 31 ⟨rfl, rfl, trivial⟩, hC, (e8.free (Free.os (Free.pr Free.int (Free.os Free.int)))), hO.top⟩
 refine c_condF (congrArg Value.bool e7) ?_
 refine wp_skip ?_
 refine c_sr ?_
 refine pl_val (.pointer (some ⟨a0, 0, none⟩)) (y_move rfl) ?_
 refine pl_val (.slice e4 e5 e6) (y_move rfl) ?_
 have hO := hO.fr5
 have hO := hO.fr5
 have hO := hO.fr5
 have hO := hO.fr5
 have hO := hO.fr5
 have hO := hO.fr5
 obtain ⟨r26, j2, hs⟩ := bind_some hs
 refine pl_call Bd85 rfl (c_impl_chainer__ops (M := (Less (Less (Less (Less (Less (Less (PastL M [] a2 a1 (a3 ++ ([]))) c5) ([a0])) a5) a6) a7) a8)) r20 (p10.1, p10.2.1, p10.2.2.1, p10.2.2.2.1, p10.2.2.2.2.1, p10.2.2.2.2.2.1, p10.2.2.2.2.2.2) ((((((((Frz.os Frz.int)).val c1 Less.sub Less.not).sub Less.sub).sub Less.sub).sub Less.sub).sub Less.sub).sub Less.sub) (show RBox (Less (Less (Less (Less (Less (Less (PastL M [] a2 a1 (a3 ++ ([]))) c5) ([a0])) a5) a6) a7) a8) _ a0 58 [(.int .i64 p10.1), (.slice c8 c9 d0), (.slice d1 d2 d3), (.slice d4 d5 d6), (.slice d7 d8 d9), (.int .i64 p10.2.2.2.2.2.1), (.int .i64 p10.2.2.2.2.2.2)] from ⟨a9, fun h => by simp [Less] at h⟩) ((((((Frz.os (Frz.rs Frz.int))).val ((b0.sub Less.sub).sub Less.sub) Less.sub Less.not).sub Less.sub).sub Less.sub).sub Less.sub) (((((Frz.os Frz.bool)).val (((b1.sub Less.sub).sub Less.sub).sub Less.sub) Less.sub Less.not).sub Less.sub).sub Less.sub) ((((Frz.os (Frz.os Frz.int))).val ((((b2.sub Less.sub).sub Less.sub).sub Less.sub).sub Less.sub) Less.sub Less.not).sub Less.sub) (((Frz.os (Frz.os Frz.int))).val (((((b3.sub Less.sub).sub Less.sub).sub Less.sub).sub Less.sub).sub Less.sub) Less.sub Less.not) (((((hO.less).less).less).less).less).less.fut j2) ?_
 rintro _ l7 ⟨f7, f8, f9, g0, rfl, b7, e9, j3⟩
 have hO := hO.fr5
 have hO := hO.fr5
 have hO := hO.fr5
 have hO := hO.fr5
 have hO := hO.fr5
 have hO := hO.fr5
 have hO := hO.perm (R := [] ++ (c5 ++ (([a0]) ++ (a5 ++ (a6 ++ (a7 ++ (a8 ++ (([b5]) ++ (([b4]) ++ ([])))))))))) (by simp)
 have a4 := a4.cn b7
 have b0 := b0.ext b7
 have b1 := b1.ext b7
 have b2 := b2.ext b7
 have b3 := b3.ext b7
 have a9 := a9.cn b7
 have b8 := b8.cn b7
 have c1 := c1.ext b7
 have hC := hC.ext b7
 have hO := Own.join hO b7 j3
 have hO := hO.perm (R := g0 ++ (c5 ++ (([a0]) ++ (a5 ++ (a6 ++ (a7 ++ (a8 ++ (([b5]) ++ (([b4]) ++ ([])))))))))) (by simp)
 have e9 := e9.free (M' := (PastL M [] a2 a1 (a3 ++ ([])))) (Free.os (Free.pr Free.int (Free.os Free.int)))
 refine pl_val (.slice f7 f8 f9) (y_assign rfl) ?_
 refine pl_val (.bool true) (y_assign rfl) ?_
 refine c_nil ?_
 refine wp_ret ?_
 cases hs
 have hO := hO.fr1
 have hO := hO.drop
 have hO := hO.fr1
 have hO := hO.drop
 have hO := hO.fr1
 have hO := hO.drop
 have hO := hO.fr1
 have hO := hO.drop
 have hO := hO.fr1
 have hO := hO.drop
 have hO := hO.fr1
 have hO := hO.drop
 have hO := hO.fr1
 have hO := hO.drop
 have hO := hO.fr1
 have hO := hO.drop
 exact ⟨_, f7, f8, f9, g0, fr_ovl 31 ⟨rfl, rfl, trivial⟩, hC, (e9.free (Free.os (Free.pr Free.int (Free.os Free.int)))), hO.top⟩

theorem Bd75 : Bodied Try.prog 75 := bodied Try.func75 (by kernel_rfl) rfl

def k_impl_DirectChain (M : Nat → Prop) (w0 : World) (r : (List (Int × (List Int))) × Bool) (a : Act) (w : World) : Prop :=
  ∃ (σ : Nat → Value) (ra0 : Option Addr) (rn0 rc0 : Nat) (rf0 : List Nat), a = fr 8 (ovl σ [(2, (.slice ra0 rn0 rc0)), (3, (.bool r.2))]) ∧ Chg [] w0 w ∧ (RT.os 64 (RT.pr (RT.int .i64) (RT.os 3 (RT.int .i64)))).val M w (.slice ra0 rn0 rc0) r.1 rf0 ∧ Own (Nw w0 []) (fun _ => True) w (rf0 ++ ([]))
def s_impl_DirectChain (a_ : Int × (List (Int × (List Int)))) : Option ((List (Int × (List Int))) × Bool) :=
  (s_impl_findChain__impl_chainer__direct (a_.1, a_.2) 12).bind fun r4 =>
  some (r4.1, r4.2)
set_option maxHeartbeats 4000000 in
theorem c_impl_DirectChain {M : Nat → Prop} {w : World} {pa0 : Option Addr} {pn0 pc0 : Nat} (a_ : Int × (List (Int × (List Int)))) (h0 : (RT.rs (RT.pr (RT.int .i64) (RT.rs (RT.int .i64)))).val M w (.slice pa0 pn0 pc0) a_.2 ([])) (hM : ∀ g, w.heap.size ≤ g → M g) {r : (List (Int × (List Int))) × Bool} (hs : s_impl_DirectChain a_ = some r) :
    Gives Try.prog 37 [(.agg #[(.int .i64 a_.1), (.slice pa0 pn0 pc0)])] w (fun v w' => ∃ (ra0 : Option Addr) (rn0 rc0 : Nat) (rf0 : List Nat), v = (.tuple #[(.slice ra0 rn0 rc0), (.bool r.2)]) ∧ Chg [] w w' ∧ (RT.os 64 (RT.pr (RT.int .i64) (RT.os 3 (RT.int .i64)))).val M w' (.slice ra0 rn0 rc0) r.1 rf0 ∧ Own (Nw w []) (fun _ => True) w' (rf0 ++ ([]))) := by
 refine calls_fr Try.func37 rfl Try.ntmps37 (Nat.le_of_ble_eq_true rfl) ?_
 have hO := Own.start (N := Nw w []) hM Nw.fut
 have hC := Chg.refl [] w
 unfold s_impl_DirectChain at hs
 refine wp_mono (Q := KPost (k_impl_DirectChain M w r)) ?_ (fun e a b4 h => ?_)
 rotate_left
 ·cases e
  case ret =>
   obtain ⟨σ, ra0, rn0, rc0, rf0, rfl, hrest⟩ := h
   exact ret2x Try.results37 (res_tmp rfl) (res_tmp rfl) ⟨ra0, rn0, rc0, rf0, rfl, hrest⟩
  all_goals exact (h : False).elim
 refine c_sr ?_
 obtain ⟨a9, a6, b0, a7, a2, a0⟩ := new_block w [(.int .i64 a_.1), (.slice pa0 pn0 pc0)] 30
 refine pl_val (w' := a9) (.pointer (some ⟨a6, 0, none⟩)) (y_box rfl (by rw [b0, a7]; kernel_rfl)) ?_
 have h0 := h0.ext a2
 have hC := hC.ext a2
 have hO := hO.new1 a2 a7 a0.lt
 refine pl_val (.slice none 0 0) (y_assign rfl) ?_
 refine pl_val (.bool false) (y_assign rfl) ?_
 refine c_nil ?_
 refine c_sr ?_
 refine pl_val (.agg #[(.int .i64 a_.1), (.slice pa0 pn0 pc0)]) (y_load rfl ((box_load Ag30 Sz30 a0 [] [(.int .i64 a_.1), (.slice pa0 pn0 pc0)] [] rfl rfl (fun h => nomatch h)) _ (Chg.refl _ _))) ?_
 obtain ⟨r4, b1, hs⟩ := bind_some hs
 refine pl_call Bd75 rfl (c_impl_findChain__impl_chainer__direct (M := M) (a_.1, a_.2) 12 h0 hO.fut b1) ?_
 rintro _ b5 ⟨a3, a4, a5, a8, rfl, a1, b2, b3⟩
 have h0 := h0.ext a1
 have a0 := a0.cn a1
 have hC := hC.ext a1
 have hO := Own.join0 hO a1 b3
 have hO := hO.perm (R := a8 ++ (([a6]) ++ ([]))) (by simp)
 refine pl_val (.slice a3 a4 a5) (y_extract rfl (by kernel_rfl)) ?_
 refine pl_val (.bool r4.2) (y_extract rfl (by kernel_rfl)) ?_
 refine pl_val (.slice a3 a4 a5) (y_assign rfl) ?_
 refine pl_val (.bool r4.2) (y_assign rfl) ?_
 refine c_nil ?_
 refine wp_ret ?_
 cases hs
 have hO := hO.fr1
 have hO := hO.drop
 exact ⟨_, a3, a4, a5, a8, fr_ovl 8 ⟨rfl, rfl, trivial⟩, hC, b2, hO.top⟩

def k_laws_eqIntS (M : Nat → Prop) (w0 : World) (r : Bool) (a : Act) (w : World) : Prop :=
  ∃ (σ : Nat → Value) , a = fr 26 (ovl σ [(4, (.bool r))]) ∧ Chg [] w0 w
def s_laws_eqIntS (a_ : List Int) (b : List Int) : Option (Bool) :=
  (bif ((a_.length : Int) != (b.length : Int)) then some false else (forC (S := Unit) (R := Bool) (fun k12 s10 =>
  (idx a_ k12).bind fun x17 =>
  (idx b k12).bind fun x19 =>
  (bif (x17 != x19) then some (.rt false) else some (.nx ()))) 0 (a_.length : Int) ()).bind fun o14 => after o14 (fun r_ => some r_) (fun s10 =>
  some true))
set_option maxHeartbeats 4000000 in
theorem c_laws_eqIntS {M : Nat → Prop} {w : World} {pa0 : Option Addr} {pn0 pc0 : Nat} {pa1 : Option Addr} {pn1 pc1 : Nat} (a_ : List Int) (b : List Int) (h0 : (RT.rs (RT.int .i64)).val M w (.slice pa0 pn0 pc0) a_ ([])) (h1 : (RT.rs (RT.int .i64)).val M w (.slice pa1 pn1 pc1) b ([])) (hM : ∀ g, w.heap.size ≤ g → M g) {r : Bool} (hs : s_laws_eqIntS a_ b = some r) :
    Gives Try.prog 27 [(.slice pa0 pn0 pc0), (.slice pa1 pn1 pc1)] w (fun v w' => v = (.bool r) ∧ Chg [] w w') := by
 refine calls_fr Try.func27 rfl Try.ntmps27 (Nat.le_of_ble_eq_true rfl) ?_
 have hO := Own.start (N := Nw w []) hM Nw.fut
 have hC := Chg.refl [] w
 unfold s_laws_eqIntS at hs
 refine wp_mono (Q := KPost (k_laws_eqIntS M w r)) ?_ (fun e a a4 h => ?_)
 rotate_left
 ·cases e
  case ret =>
   obtain ⟨σ, rfl, hrest⟩ := h
   exact ret1x Try.results27 (res_tmp rfl) ⟨rfl, hrest⟩
  all_goals exact (h : False).elim
 refine c_sr ?_
 refine pl_val (.bool false) (y_assign rfl) ?_
 refine c_nil ?_
 refine c_seq ?_
 refine c_sr ?_
 refine pl_val (.slice pa0 pn0 pc0) (y_move rfl) ?_
 refine pl_val (.int .i64 (a_.length : Int)) (y_len' Sl37 (rs_len h0) rfl) ?_
 refine pl_val (.slice pa1 pn1 pc1) (y_move rfl) ?_
 refine pl_val (.int .i64 (b.length : Int)) (y_len' Sl37 (rs_len h1) rfl) ?_
 refine pl_val (.bool ((a_.length : Int) != (b.length : Int))) (y_neq rfl rfl) ?_
 refine c_nil ?_
 rcases bif_some hs with ⟨a2, hs⟩ | ⟨a2, hs⟩
 ·refine c_condT (congrArg Value.bool a2) ?_
  refine c_sr ?_
  refine pl_val (.bool false) (y_assign rfl) ?_
  refine c_nil ?_
  refine wp_ret ?_
  cases hs
  exact ⟨_, fr_ovl 26 ⟨rfl, trivial⟩, hC⟩
 refine c_condF (congrArg Value.bool a2) ?_
 refine wp_skip ?_
 refine c_seq ?_
 refine c_sr ?_
 refine pl_val (.int .i64 0) (y_assign rfl) ?_
 refine c_nil ?_
 obtain ⟨o14, a5, hs⟩ := bind_some hs
 refine wp_block ?_
 refine wp_forC (id := 0) (a_.length : Int) (I := fun k12 s10 a a0 => ∃ (σ : Nat → Value), a = fr 26 (ovl σ [(0, (.slice pa0 pn0 pc0)), (1, (.slice pa1 pn1 pc1)), (5, (.int .i64 k12))]) ∧ Chg [] w a0 ∧ Own (Nw w []) M a0 ([]) ∧ (RT.rs (RT.int .i64)).val M a0 (.slice pa0 pn0 pc0) a_ ([]) ∧ (RT.rs (RT.int .i64)).val M a0 (.slice pa1 pn1 pc1) b ([])) (J := fun s10 a a0 => ∃ (σ : Nat → Value), a = fr 26 (ovl σ []) ∧ Chg [] w a0 ∧ Own (Nw w []) M a0 ([]) ∧ (RT.rs (RT.int .i64)).val M a0 (.slice pa0 pn0 pc0) a_ ([]) ∧ (RT.rs (RT.int .i64)).val M a0 (.slice pa1 pn1 pc1) b ([])) (K := (k_laws_eqIntS M w)) ?_ ?_ 0 () o14 _ _ ?_ a5 ?_
 ·rintro k12 s10 a a0 ⟨σ, rfl, hC, hO, h0, h1⟩ hlt
  refine c_seq ?_
  refine c_sr ?_
  refine pl_val (.int .i64 k12) (y_move rfl) ?_
  refine pl_val (.slice pa0 pn0 pc0) (y_move rfl) ?_
  refine pl_val (.int .i64 (a_.length : Int)) (y_len' Sl37 (rs_len h0) rfl) ?_
  refine pl_val (.bool (decide (k12 < (a_.length : Int)))) (y_lss rfl rfl) ?_
  refine c_nil ?_
  refine c_condF (congrArg Value.bool (decide_eq_false hlt)) ?_
  refine wp_exit ?_
  exact ⟨rfl, _, fr_ovl 26 trivial, hC, hO, h0, h1⟩
 ·rintro k12 s10 o14 a a0 ⟨σ, rfl, hC, hO, h0, h1⟩ hlt hw hs
  refine c_seq ?_
  refine c_sr ?_
  refine pl_val (.int .i64 k12) (y_move rfl) ?_
  refine pl_val (.slice pa0 pn0 pc0) (y_move rfl) ?_
  refine pl_val (.int .i64 (a_.length : Int)) (y_len' Sl37 (rs_len h0) rfl) ?_
  refine pl_val (.bool (decide (k12 < (a_.length : Int)))) (y_lss rfl rfl) ?_
  refine c_nil ?_
  refine c_condT (congrArg Value.bool (decide_eq_true hlt)) ?_
  refine wp_skip ?_
  refine c_seq ?_
  refine wp_block ?_
  refine c_seq ?_
  refine x_start [] Mx rfl ?_
  have a1 := Chg.drew a0
  generalize World.drew a0 = a6 at a1 ⊢
  have h0 := h0.ext a1
  have h1 := h1.ext a1
  have hC := hC.ext a1
  have hO := hO.ext a1
  have hS := Chg.refl [] a6
  refine x_p 0 (.slice pa0 pn0 pc0) rfl (by kernel_rfl)  (fun _ => y_move rfl) (fun _ => hS) ?_
  refine x_p 1 (.int .i64 k12) rfl (by kernel_rfl)  (fun _ => y_move rfl) (fun _ => hS) ?_
  obtain ⟨x17, a7, hs⟩ := bind_some hs
  obtain ⟨a8, a9, b0, b1⟩ := rs_idx Sl37 Sz3 h0 a7
  refine x_p 2 (.pointer (some ⟨a8, a9, none⟩)) rfl (by kernel_rfl)  (fun _ => b0 _ _ _ _ _ _ _ _ _ rfl rfl) (fun _ => hS) ?_
  refine x_l 3 (.int .i64 x17) rfl (by kernel_rfl)  (fun w' hw' => y_load rfl ((at_load_int Ag3 Sz3 b1) w' hw')) hS ?_
  refine x_p 4 (.slice pa1 pn1 pc1) rfl (by kernel_rfl)  (fun _ => y_move rfl) (fun _ => hS) ?_
  refine x_p 5 (.int .i64 k12) rfl (by kernel_rfl)  (fun _ => y_move rfl) (fun _ => hS) ?_
  obtain ⟨x19, b2, hs⟩ := bind_some hs
  obtain ⟨b3, b4, b5, b6⟩ := rs_idx Sl37 Sz3 h1 b2
  refine x_p 6 (.pointer (some ⟨b3, b4, none⟩)) rfl (by kernel_rfl)  (fun _ => b5 _ _ _ _ _ _ _ _ _ rfl rfl) (fun _ => hS) ?_
  refine x_l 7 (.int .i64 x19) rfl (by kernel_rfl)  (fun w' hw' => y_load rfl ((at_load_int Ag3 Sz3 b6) w' hw')) hS ?_
  refine x_p 8 (.bool (x17 != x19)) rfl (by kernel_rfl)  (fun _ => y_neq rfl rfl) (fun _ => hS) ?_
  refine x_end (by kernel_rfl) ?_
  clear hS
  rcases bif_some hs with ⟨a3, hs⟩ | ⟨a3, hs⟩
  ·refine c_condT (congrArg Value.bool a3) ?_
   refine c_sr ?_
   refine pl_val (.bool false) (y_assign rfl) ?_
   refine c_nil ?_
   refine wp_ret ?_
   cases hs
   exact ⟨_, fr_ovl 26 ⟨rfl, trivial⟩, hC⟩
  refine c_condF (congrArg Value.bool a3) ?_
  refine wp_skip ?_
  refine c_region ?_
  refine pl_val (.int .i64 k12) (y_move rfl) ?_
  refine pl_val (.int .i64 (w64 (k12 + 1))) (y_add rfl rfl) ?_
  refine pl_val (.int .i64 (w64 (k12 + 1))) (y_assign rfl) ?_
  refine c_nil ?_
  cases hs
  exact ⟨_, fr_ovl 26 ⟨rfl, rfl, congrArg (Value.int .i64) hw, trivial⟩, hC, hO, h0, h1⟩
 ·skip
  exact ⟨_, fr_ovl 26 ⟨rfl, rfl, rfl, trivial⟩, hC, hO, h0, h1⟩
 cases o14 with
 | nx _ => exact True.intro
 | rt r_ =>
  have hs := after_rt hs
  intro b7 a4 hK
  cases hs
  exact hK
 | br s10 =>
  have hs := after_br hs
  rintro b7 a0 ⟨σ, rfl, hC, hO, h0, h1⟩
  refine c_sr ?_
  refine pl_val (.bool true) (y_assign rfl) ?_
  refine c_nil ?_
  refine wp_ret ?_
  cases hs
  exact ⟨_, fr_ovl 26 ⟨rfl, trivial⟩, hC⟩

theorem Bd27 : Bodied Try.prog 27 := bodied Try.func27 (by kernel_rfl) rfl

def k_laws_eqOp (M : Nat → Prop) (w0 : World) (r : Bool) (a : Act) (w : World) : Prop :=
  ∃ (σ : Nat → Value) , a = fr 16 (ovl σ [(4, (.bool r))]) ∧ Chg [] w0 w
def s_laws_eqOp (a_ : Int × (List Int)) (b : Int × (List Int)) : Option (Bool) :=
  (bif (a_.1 != b.1) then some false else (s_laws_eqIntS a_.2 b.2).bind fun r7 =>
  (bif (!r7) then some false else some true))
set_option maxHeartbeats 4000000 in
theorem c_laws_eqOp {M : Nat → Prop} {w : World} {pa0 : Option Addr} {pn0 pc0 : Nat} {pa1 : Option Addr} {pn1 pc1 : Nat} (a_ : Int × (List Int)) (b : Int × (List Int)) (h0 : (RT.rs (RT.int .i64)).val M w (.slice pa0 pn0 pc0) a_.2 ([])) (h1 : (RT.rs (RT.int .i64)).val M w (.slice pa1 pn1 pc1) b.2 ([])) (hM : ∀ g, w.heap.size ≤ g → M g) {r : Bool} (hs : s_laws_eqOp a_ b = some r) :
    Gives Try.prog 47 [(.agg #[(.int .i64 a_.1), (.slice pa0 pn0 pc0)]), (.agg #[(.int .i64 b.1), (.slice pa1 pn1 pc1)])] w (fun v w' => v = (.bool r) ∧ Chg [] w w') := by
 refine calls_fr Try.func47 rfl Try.ntmps47 (Nat.le_of_ble_eq_true rfl) ?_
 have hO := Own.start (N := Nw w []) hM Nw.fut
 have hC := Chg.refl [] w
 unfold s_laws_eqOp at hs
 refine wp_mono (Q := KPost (k_laws_eqOp M w r)) ?_ (fun e a b6 h => ?_)
 rotate_left
 ·cases e
  case ret =>
   obtain ⟨σ, rfl, hrest⟩ := h
   exact ret1x Try.results47 (res_tmp rfl) ⟨rfl, hrest⟩
  all_goals exact (h : False).elim
 refine c_sr ?_
 obtain ⟨a9, a5, b2, b0, a4, a0⟩ := new_block w [(.int .i64 a_.1), (.slice pa0 pn0 pc0)] 64
 refine pl_val (w' := a9) (.pointer (some ⟨a5, 0, none⟩)) (y_box rfl (by rw [b2, b0]; kernel_rfl)) ?_
 have h0 := h0.ext a4
 have h1 := h1.ext a4
 have hC := hC.ext a4
 have hO := hO.new1 a4 b0 a0.lt
 obtain ⟨b3, a6, b4, b1, a2, a3⟩ := new_block a9 [(.int .i64 b.1), (.slice pa1 pn1 pc1)] 64
 refine pl_val (w' := b3) (.pointer (some ⟨a6, 0, none⟩)) (y_box rfl (by rw [b4, b1]; kernel_rfl)) ?_
 have h0 := h0.ext a2
 have h1 := h1.ext a2
 have a0 := a0.cn a2
 have hC := hC.ext a2
 have hO := hO.new1 a2 b1 a3.lt
 refine pl_val (.bool false) (y_assign rfl) ?_
 refine c_nil ?_
 refine c_seq ?_
 refine c_sr ?_
 refine pl_val (.pointer (some ⟨a5, 0, none⟩)) (y_faddr rfl Fa64x0) ?_
 refine pl_val (.int .i64 a_.1) (y_load rfl ((box_load Ag3 Sz3 a0 [] [(.int .i64 a_.1)] [(.slice pa0 pn0 pc0)] rfl rfl (fun _ => rfl)) _ (Chg.refl _ _))) ?_
 refine pl_val (.pointer (some ⟨a6, 0, none⟩)) (y_faddr rfl Fa64x0) ?_
 refine pl_val (.int .i64 b.1) (y_load rfl ((box_load Ag3 Sz3 a3 [] [(.int .i64 b.1)] [(.slice pa1 pn1 pc1)] rfl rfl (fun _ => rfl)) _ (Chg.refl _ _))) ?_
 refine pl_val (.bool (a_.1 != b.1)) (y_neq rfl rfl) ?_
 refine c_nil ?_
 rcases bif_some hs with ⟨a7, hs⟩ | ⟨a7, hs⟩
 ·refine c_condT (congrArg Value.bool a7) ?_
  refine c_sr ?_
  refine pl_val (.bool false) (y_assign rfl) ?_
  refine c_nil ?_
  refine wp_ret ?_
  cases hs
  exact ⟨_, fr_ovl 16 ⟨rfl, trivial⟩, hC⟩
 refine c_condF (congrArg Value.bool a7) ?_
 refine wp_skip ?_
 refine c_seq ?_
 refine c_sr ?_
 refine pl_val (.pointer (some ⟨a5, 1, none⟩)) (y_faddr rfl Fa64x1) ?_
 refine pl_val (.slice pa0 pn0 pc0) (y_load rfl ((box_load Ag37 Sz37 a0 [(.int .i64 a_.1)] [(.slice pa0 pn0 pc0)] [] rfl rfl (fun _ => rfl)) _ (Chg.refl _ _))) ?_
 refine pl_val (.pointer (some ⟨a6, 1, none⟩)) (y_faddr rfl Fa64x1) ?_
 refine pl_val (.slice pa1 pn1 pc1) (y_load rfl ((box_load Ag37 Sz37 a3 [(.int .i64 b.1)] [(.slice pa1 pn1 pc1)] [] rfl rfl (fun _ => rfl)) _ (Chg.refl _ _))) ?_
 obtain ⟨r7, b5, hs⟩ := bind_some hs
 refine pl_call Bd27 rfl (c_laws_eqIntS (M := M) a_.2 b.2 h0 h1 hO.fut b5) ?_
 rintro _ b7 ⟨rfl, a1⟩
 have h0 := h0.ext a1
 have h1 := h1.ext a1
 have a0 := a0.cn a1
 have a3 := a3.cn a1
 have hC := hC.ext a1
 have hO := hO.ext a1
 refine pl_val (.bool (!r7)) (y_not rfl) ?_
 refine c_nil ?_
 have hO := hO.drop
 have hO := hO.drop
 rcases bif_some hs with ⟨a8, hs⟩ | ⟨a8, hs⟩
 ·refine c_condT (congrArg Value.bool a8) ?_
  refine c_sr ?_
  refine pl_val (.bool false) (y_assign rfl) ?_
  refine c_nil ?_
  refine wp_ret ?_
  cases hs
  exact ⟨_, fr_ovl 16 ⟨rfl, trivial⟩, hC⟩
 refine c_condF (congrArg Value.bool a8) ?_
 refine wp_skip ?_
 refine c_sr ?_
 refine pl_val (.bool true) (y_assign rfl) ?_
 refine c_nil ?_
 refine wp_ret ?_
 cases hs
 exact ⟨_, fr_ovl 16 ⟨rfl, trivial⟩, hC⟩

theorem Bd47 : Bodied Try.prog 47 := bodied Try.func47 (by kernel_rfl) rfl

def k_laws_eqOpS (M : Nat → Prop) (w0 : World) (r : Bool) (a : Act) (w : World) : Prop :=
  ∃ (σ : Nat → Value) , a = fr 27 (ovl σ [(4, (.bool r))]) ∧ Chg [] w0 w
def s_laws_eqOpS (a_ : List (Int × (List Int))) (b : List (Int × (List Int))) : Option (Bool) :=
  (bif ((a_.length : Int) != (b.length : Int)) then some false else (forC (S := Unit) (R := Bool) (fun k18 s16 =>
  (idx a_ k18).bind fun x23 =>
  (idx b k18).bind fun x27 =>
  (s_laws_eqOp (x23.1, x23.2) (x27.1, x27.2)).bind fun r32 =>
  (bif (!r32) then some (.rt false) else some (.nx ()))) 0 (a_.length : Int) ()).bind fun o20 => after o20 (fun r_ => some r_) (fun s16 =>
  some true))
set_option maxHeartbeats 4000000 in
theorem c_laws_eqOpS {M : Nat → Prop} {w : World} {pa0 : Option Addr} {pn0 pc0 : Nat} {pa1 : Option Addr} {pn1 pc1 : Nat} (a_ : List (Int × (List Int))) (b : List (Int × (List Int))) (h0 : (RT.rs (RT.pr (RT.int .i64) (RT.rs (RT.int .i64)))).val M w (.slice pa0 pn0 pc0) a_ ([])) (h1 : (RT.rs (RT.pr (RT.int .i64) (RT.rs (RT.int .i64)))).val M w (.slice pa1 pn1 pc1) b ([])) (hM : ∀ g, w.heap.size ≤ g → M g) {r : Bool} (hs : s_laws_eqOpS a_ b = some r) :
    Gives Try.prog 15 [(.slice pa0 pn0 pc0), (.slice pa1 pn1 pc1)] w (fun v w' => v = (.bool r) ∧ Chg [] w w') := by
 refine calls_fr Try.func15 rfl Try.ntmps15 (Nat.le_of_ble_eq_true rfl) ?_
 have hO := Own.start (N := Nw w []) hM Nw.fut
 have hC := Chg.refl [] w
 unfold s_laws_eqOpS at hs
 refine wp_mono (Q := KPost (k_laws_eqOpS M w r)) ?_ (fun e a a9 h => ?_)
 rotate_left
 ·cases e
  case ret =>
   obtain ⟨σ, rfl, hrest⟩ := h
   exact ret1x Try.results15 (res_tmp rfl) ⟨rfl, hrest⟩
  all_goals exact (h : False).elim
 refine c_sr ?_
 refine pl_val (.bool false) (y_assign rfl) ?_
 refine c_nil ?_
 refine c_seq ?_
 refine c_sr ?_
 refine pl_val (.slice pa0 pn0 pc0) (y_move rfl) ?_
 refine pl_val (.int .i64 (a_.length : Int)) (y_len' Sl26 (rs_len h0) rfl) ?_
 refine pl_val (.slice pa1 pn1 pc1) (y_move rfl) ?_
 refine pl_val (.int .i64 (b.length : Int)) (y_len' Sl26 (rs_len h1) rfl) ?_
 refine pl_val (.bool ((a_.length : Int) != (b.length : Int))) (y_neq rfl rfl) ?_
 refine c_nil ?_
 rcases bif_some hs with ⟨a3, hs⟩ | ⟨a3, hs⟩
 ·refine c_condT (congrArg Value.bool a3) ?_
  refine c_sr ?_
  refine pl_val (.bool false) (y_assign rfl) ?_
  refine c_nil ?_
  refine wp_ret ?_
  cases hs
  exact ⟨_, fr_ovl 27 ⟨rfl, trivial⟩, hC⟩
 refine c_condF (congrArg Value.bool a3) ?_
 refine wp_skip ?_
 refine c_seq ?_
 refine c_sr ?_
 refine pl_val (.int .i64 0) (y_assign rfl) ?_
 refine c_nil ?_
 obtain ⟨o20, b0, hs⟩ := bind_some hs
 refine wp_block ?_
 refine wp_forC (id := 0) (a_.length : Int) (I := fun k18 s16 a a0 => ∃ (σ : Nat → Value), a = fr 27 (ovl σ [(0, (.slice pa0 pn0 pc0)), (1, (.slice pa1 pn1 pc1)), (5, (.int .i64 k18))]) ∧ Chg [] w a0 ∧ Own (Nw w []) M a0 ([]) ∧ (RT.rs (RT.pr (RT.int .i64) (RT.rs (RT.int .i64)))).val M a0 (.slice pa0 pn0 pc0) a_ ([]) ∧ (RT.rs (RT.pr (RT.int .i64) (RT.rs (RT.int .i64)))).val M a0 (.slice pa1 pn1 pc1) b ([])) (J := fun s16 a a0 => ∃ (σ : Nat → Value), a = fr 27 (ovl σ []) ∧ Chg [] w a0 ∧ Own (Nw w []) M a0 ([]) ∧ (RT.rs (RT.pr (RT.int .i64) (RT.rs (RT.int .i64)))).val M a0 (.slice pa0 pn0 pc0) a_ ([]) ∧ (RT.rs (RT.pr (RT.int .i64) (RT.rs (RT.int .i64)))).val M a0 (.slice pa1 pn1 pc1) b ([])) (K := (k_laws_eqOpS M w)) ?_ ?_ 0 () o20 _ _ ?_ b0 ?_
 ·rintro k18 s16 a a0 ⟨σ, rfl, hC, hO, h0, h1⟩ hlt
  refine c_seq ?_
  refine c_sr ?_
  refine pl_val (.int .i64 k18) (y_move rfl) ?_
  refine pl_val (.slice pa0 pn0 pc0) (y_move rfl) ?_
  refine pl_val (.int .i64 (a_.length : Int)) (y_len' Sl26 (rs_len h0) rfl) ?_
  refine pl_val (.bool (decide (k18 < (a_.length : Int)))) (y_lss rfl rfl) ?_
  refine c_nil ?_
  refine c_condF (congrArg Value.bool (decide_eq_false hlt)) ?_
  refine wp_exit ?_
  exact ⟨rfl, _, fr_ovl 27 trivial, hC, hO, h0, h1⟩
 ·rintro k18 s16 o20 a a0 ⟨σ, rfl, hC, hO, h0, h1⟩ hlt hw hs
  refine c_seq ?_
  refine c_sr ?_
  refine pl_val (.int .i64 k18) (y_move rfl) ?_
  refine pl_val (.slice pa0 pn0 pc0) (y_move rfl) ?_
  refine pl_val (.int .i64 (a_.length : Int)) (y_len' Sl26 (rs_len h0) rfl) ?_
  refine pl_val (.bool (decide (k18 < (a_.length : Int)))) (y_lss rfl rfl) ?_
  refine c_nil ?_
  refine c_condT (congrArg Value.bool (decide_eq_true hlt)) ?_
  refine wp_skip ?_
  refine c_seq ?_
  refine wp_block ?_
  refine c_seq ?_
  refine x_start [] Mx rfl ?_
  have a2 := Chg.drew a0
  generalize World.drew a0 = b1 at a2 ⊢
  have h0 := h0.ext a2
  have h1 := h1.ext a2
  have hC := hC.ext a2
  have hO := hO.ext a2
  have hS := Chg.refl [] b1
  refine x_p 0 (.slice pa0 pn0 pc0) rfl (by kernel_rfl)  (fun _ => y_move rfl) (fun _ => hS) ?_
  refine x_p 1 (.int .i64 k18) rfl (by kernel_rfl)  (fun _ => y_move rfl) (fun _ => hS) ?_
  obtain ⟨x23, b2, hs⟩ := bind_some hs
  obtain ⟨b3, b4, b5, a4⟩ := rs_idx Sl26 Sz64 h0 b2
  refine x_p 2 (.pointer (some ⟨b3, b4, none⟩)) rfl (by kernel_rfl)  (fun _ => b5 _ _ _ _ _ _ _ _ _ rfl rfl) (fun _ => hS) ?_
  obtain ⟨d8, b6, b7⟩ := at_load Ag64 Sz64 (by intro h; cases h) a4
  obtain ⟨d9, rfl, b8⟩ := b7
  obtain ⟨e0, e1, rfl, b9, c0⟩ := pr_open b8
  obtain rfl := int_rel b9
  obtain ⟨c1, c2, c3, rfl, a5⟩ := rs_rel c0
  refine x_l 3 (.agg #[(.int .i64 x23.1), (.slice c1 c2 c3)]) rfl (by kernel_rfl)  (fun w' hw' => y_load rfl (b6 w' hw')) hS ?_
  refine x_p 4 (.slice pa1 pn1 pc1) rfl (by kernel_rfl)  (fun _ => y_move rfl) (fun _ => hS) ?_
  refine x_p 5 (.int .i64 k18) rfl (by kernel_rfl)  (fun _ => y_move rfl) (fun _ => hS) ?_
  obtain ⟨x27, c4, hs⟩ := bind_some hs
  obtain ⟨c5, c6, c7, a6⟩ := rs_idx Sl26 Sz64 h1 c4
  refine x_p 6 (.pointer (some ⟨c5, c6, none⟩)) rfl (by kernel_rfl)  (fun _ => c7 _ _ _ _ _ _ _ _ _ rfl rfl) (fun _ => hS) ?_
  obtain ⟨e2, c8, c9⟩ := at_load Ag64 Sz64 (by intro h; cases h) a6
  obtain ⟨e3, rfl, d0⟩ := c9
  obtain ⟨e4, e5, rfl, d1, d2⟩ := pr_open d0
  obtain rfl := int_rel d1
  obtain ⟨d3, d4, d5, rfl, a7⟩ := rs_rel d2
  refine x_l 7 (.agg #[(.int .i64 x27.1), (.slice d3 d4 d5)]) rfl (by kernel_rfl)  (fun w' hw' => y_load rfl (c8 w' hw')) hS ?_
  refine x_one (i := 8) (by kernel_rfl) ?_
  obtain ⟨r32, d6, hs⟩ := bind_some hs
  refine xk_call (b := false) rfl  Bd47 rfl (c_laws_eqOp (M := M) (x23.1, x23.2) (x27.1, x27.2) a5 a7 hO.fut d6) rfl (by rintro _ _ _ ⟨rfl, a1⟩; exact hS.ext a1) ?_
  rintro _ e6 ⟨rfl, a1⟩
  have h0 := h0.ext a1
  have h1 := h1.ext a1
  have a5 := a5.ext a1
  have a7 := a7.ext a1
  have a4 := at_ext a4 a1
  have a6 := at_ext a6 a1
  have hC := hC.ext a1
  have hO := hO.ext a1
  have hS := hS.ext a1
  refine x_p 9 (.bool (!r32)) rfl (by kernel_rfl)  (fun _ => y_not rfl) (fun _ => hS) ?_
  refine x_end (by kernel_rfl) ?_
  clear hS
  rcases bif_some hs with ⟨a8, hs⟩ | ⟨a8, hs⟩
  ·refine c_condT (congrArg Value.bool a8) ?_
   refine c_sr ?_
   refine pl_val (.bool false) (y_assign rfl) ?_
   refine c_nil ?_
   refine wp_ret ?_
   cases hs
   exact ⟨_, fr_ovl 27 ⟨rfl, trivial⟩, hC⟩
  refine c_condF (congrArg Value.bool a8) ?_
  refine wp_skip ?_
  refine c_region ?_
  refine pl_val (.int .i64 k18) (y_move rfl) ?_
  refine pl_val (.int .i64 (w64 (k18 + 1))) (y_add rfl rfl) ?_
  refine pl_val (.int .i64 (w64 (k18 + 1))) (y_assign rfl) ?_
  refine c_nil ?_
  cases hs
  exact ⟨_, fr_ovl 27 ⟨rfl, rfl, congrArg (Value.int .i64) hw, trivial⟩, hC, hO, h0, h1⟩
 ·skip
  exact ⟨_, fr_ovl 27 ⟨rfl, rfl, rfl, trivial⟩, hC, hO, h0, h1⟩
 cases o20 with
 | nx _ => exact True.intro
 | rt r_ =>
  have hs := after_rt hs
  intro d7 a9 hK
  cases hs
  exact hK
 | br s16 =>
  have hs := after_br hs
  rintro d7 a0 ⟨σ, rfl, hC, hO, h0, h1⟩
  refine c_sr ?_
  refine pl_val (.bool true) (y_assign rfl) ?_
  refine c_nil ?_
  refine wp_ret ?_
  cases hs
  exact ⟨_, fr_ovl 27 ⟨rfl, trivial⟩, hC⟩

theorem Bd15 : Bodied Try.prog 15 := bodied Try.func15 (by kernel_rfl) rfl

def k_laws_eqAlgebra (M : Nat → Prop) (w0 : World) (r : Bool) (a : Act) (w : World) : Prop :=
  ∃ (σ : Nat → Value) , a = fr 16 (ovl σ [(4, (.bool r))]) ∧ Chg [] w0 w
def s_laws_eqAlgebra (a_ : Int × (List (Int × (List Int)))) (b : Int × (List (Int × (List Int)))) : Option (Bool) :=
  (bif (a_.1 != b.1) then some false else (s_laws_eqOpS a_.2 b.2).bind fun r7 =>
  (bif (!r7) then some false else some true))
set_option maxHeartbeats 4000000 in
theorem c_laws_eqAlgebra {M : Nat → Prop} {w : World} {pa0 : Option Addr} {pn0 pc0 : Nat} {pa1 : Option Addr} {pn1 pc1 : Nat} (a_ : Int × (List (Int × (List Int)))) (b : Int × (List (Int × (List Int)))) (h0 : (RT.rs (RT.pr (RT.int .i64) (RT.rs (RT.int .i64)))).val M w (.slice pa0 pn0 pc0) a_.2 ([])) (h1 : (RT.rs (RT.pr (RT.int .i64) (RT.rs (RT.int .i64)))).val M w (.slice pa1 pn1 pc1) b.2 ([])) (hM : ∀ g, w.heap.size ≤ g → M g) {r : Bool} (hs : s_laws_eqAlgebra a_ b = some r) :
    Gives Try.prog 16 [(.agg #[(.int .i64 a_.1), (.slice pa0 pn0 pc0)]), (.agg #[(.int .i64 b.1), (.slice pa1 pn1 pc1)])] w (fun v w' => v = (.bool r) ∧ Chg [] w w') := by
 refine calls_fr Try.func16 rfl Try.ntmps16 (Nat.le_of_ble_eq_true rfl) ?_
 have hO := Own.start (N := Nw w []) hM Nw.fut
 have hC := Chg.refl [] w
 unfold s_laws_eqAlgebra at hs
 refine wp_mono (Q := KPost (k_laws_eqAlgebra M w r)) ?_ (fun e a b6 h => ?_)
 rotate_left
 ·cases e
  case ret =>
   obtain ⟨σ, rfl, hrest⟩ := h
   exact ret1x Try.results16 (res_tmp rfl) ⟨rfl, hrest⟩
  all_goals exact (h : False).elim
 refine c_sr ?_
 obtain ⟨a9, a5, b2, b0, a4, a0⟩ := new_block w [(.int .i64 a_.1), (.slice pa0 pn0 pc0)] 30
 refine pl_val (w' := a9) (.pointer (some ⟨a5, 0, none⟩)) (y_box rfl (by rw [b2, b0]; kernel_rfl)) ?_
 have h0 := h0.ext a4
 have h1 := h1.ext a4
 have hC := hC.ext a4
 have hO := hO.new1 a4 b0 a0.lt
 obtain ⟨b3, a6, b4, b1, a2, a3⟩ := new_block a9 [(.int .i64 b.1), (.slice pa1 pn1 pc1)] 30
 refine pl_val (w' := b3) (.pointer (some ⟨a6, 0, none⟩)) (y_box rfl (by rw [b4, b1]; kernel_rfl)) ?_
 have h0 := h0.ext a2
 have h1 := h1.ext a2
 have a0 := a0.cn a2
 have hC := hC.ext a2
 have hO := hO.new1 a2 b1 a3.lt
 refine pl_val (.bool false) (y_assign rfl) ?_
 refine c_nil ?_
 refine c_seq ?_
 refine c_sr ?_
 refine pl_val (.pointer (some ⟨a5, 0, none⟩)) (y_faddr rfl Fa30x0) ?_
 refine pl_val (.int .i64 a_.1) (y_load rfl ((box_load Ag3 Sz3 a0 [] [(.int .i64 a_.1)] [(.slice pa0 pn0 pc0)] rfl rfl (fun _ => rfl)) _ (Chg.refl _ _))) ?_
 refine pl_val (.pointer (some ⟨a6, 0, none⟩)) (y_faddr rfl Fa30x0) ?_
 refine pl_val (.int .i64 b.1) (y_load rfl ((box_load Ag3 Sz3 a3 [] [(.int .i64 b.1)] [(.slice pa1 pn1 pc1)] rfl rfl (fun _ => rfl)) _ (Chg.refl _ _))) ?_
 refine pl_val (.bool (a_.1 != b.1)) (y_neq rfl rfl) ?_
 refine c_nil ?_
 rcases bif_some hs with ⟨a7, hs⟩ | ⟨a7, hs⟩
 ·refine c_condT (congrArg Value.bool a7) ?_
  refine c_sr ?_
  refine pl_val (.bool false) (y_assign rfl) ?_
  refine c_nil ?_
  refine wp_ret ?_
  cases hs
  exact ⟨_, fr_ovl 16 ⟨rfl, trivial⟩, hC⟩
 refine c_condF (congrArg Value.bool a7) ?_
 refine wp_skip ?_
 refine c_seq ?_
 refine c_sr ?_
 refine pl_val (.pointer (some ⟨a5, 1, none⟩)) (y_faddr rfl Fa30x1) ?_
 refine pl_val (.slice pa0 pn0 pc0) (y_load rfl ((box_load Ag26 Sz26 a0 [(.int .i64 a_.1)] [(.slice pa0 pn0 pc0)] [] rfl rfl (fun _ => rfl)) _ (Chg.refl _ _))) ?_
 refine pl_val (.pointer (some ⟨a6, 1, none⟩)) (y_faddr rfl Fa30x1) ?_
 refine pl_val (.slice pa1 pn1 pc1) (y_load rfl ((box_load Ag26 Sz26 a3 [(.int .i64 b.1)] [(.slice pa1 pn1 pc1)] [] rfl rfl (fun _ => rfl)) _ (Chg.refl _ _))) ?_
 obtain ⟨r7, b5, hs⟩ := bind_some hs
 refine pl_call Bd15 rfl (c_laws_eqOpS (M := M) a_.2 b.2 h0 h1 hO.fut b5) ?_
 rintro _ b7 ⟨rfl, a1⟩
 have h0 := h0.ext a1
 have h1 := h1.ext a1
 have a0 := a0.cn a1
 have a3 := a3.cn a1
 have hC := hC.ext a1
 have hO := hO.ext a1
 refine pl_val (.bool (!r7)) (y_not rfl) ?_
 refine c_nil ?_
 have hO := hO.drop
 have hO := hO.drop
 rcases bif_some hs with ⟨a8, hs⟩ | ⟨a8, hs⟩
 ·refine c_condT (congrArg Value.bool a8) ?_
  refine c_sr ?_
  refine pl_val (.bool false) (y_assign rfl) ?_
  refine c_nil ?_
  refine wp_ret ?_
  cases hs
  exact ⟨_, fr_ovl 16 ⟨rfl, trivial⟩, hC⟩
 refine c_condF (congrArg Value.bool a8) ?_
 refine wp_skip ?_
 refine c_sr ?_
 refine pl_val (.bool true) (y_assign rfl) ?_
 refine c_nil ?_
 refine wp_ret ?_
 cases hs
 exact ⟨_, fr_ovl 16 ⟨rfl, trivial⟩, hC⟩

def k_laws_markIntS (M : Nat → Prop) (w0 : World) (qa0 : Option Addr) (qn0 qc0 : Nat) (qf0 : List Nat) (r : Int × (List Int)) (a : Act) (w : World) : Prop :=
  ∃ (σ : Nat → Value) (rfi0 : List Nat), a = fr 19 (ovl σ [(4, (.int .i64 r.1))]) ∧ Chg (qf0 ++ ([])) w0 w ∧ (RT.os 3 (RT.int .i64)).val M w (.slice qa0 qn0 qc0) r.2 rfi0 ∧ Own (Nw w0 (qf0 ++ ([]))) (fun _ => True) w (rfi0 ++ ([]))
def s_laws_markIntS (a_ : List Int) (k : Int) : Option (Int × (List Int)) :=
  (iter (S := Int × Int × (List Int)) (R := Int × (List Int)) (fun s25 =>
  (bif (decide (s25.2.1 < (s25.2.2.length : Int))) then (idx s25.2.2 s25.2.1).bind fun x34 =>
  some (.nx (w64 (s25.1 + 1), w64 (s25.2.1 + 1), List.set s25.2.2 (Int.toNat s25.2.1) s25.1)) else some (.br (s25.1, s25.2.1, s25.2.2)))) FU (k, 0, a_)).bind fun o29 => after o29 (fun r_ => some r_) (fun s25 =>
  some (s25.1, s25.2.2))
set_option maxHeartbeats 4000000 in
theorem c_laws_markIntS {M : Nat → Prop} {w : World} {pa0 : Option Addr} {pn0 pc0 : Nat} {pf0 : List Nat} (a_ : List Int) (k : Int) (h0 : (RT.os 3 (RT.int .i64)).val M w (.slice pa0 pn0 pc0) a_ pf0) (hI : Own (Nw w (pf0 ++ ([]))) M w (pf0 ++ ([]))) (hM : ∀ g, w.heap.size ≤ g → M g) {r : Int × (List Int)} (hs : s_laws_markIntS a_ k = some r) :
    Gives Try.prog 48 [(.slice pa0 pn0 pc0), (.int .i64 k)] w (fun v w' => ∃ (rfi0 : List Nat), v = (.int .i64 r.1) ∧ Chg (pf0 ++ ([])) w w' ∧ (RT.os 3 (RT.int .i64)).val M w' (.slice pa0 pn0 pc0) r.2 rfi0 ∧ Own (Nw w (pf0 ++ ([]))) (fun _ => True) w' (rfi0 ++ ([]))) := by
 refine calls_fr Try.func48 rfl Try.ntmps48 (Nat.le_of_ble_eq_true rfl) ?_
 have hO := hI
 have hC := Chg.refl (pf0 ++ ([])) w
 unfold s_laws_markIntS at hs
 refine wp_mono (Q := KPost (k_laws_markIntS M w pa0 pn0 pc0 pf0 r)) ?_ (fun e a a9 h => ?_)
 rotate_left
 ·cases e
  case ret =>
   obtain ⟨σ, rfi0, rfl, hrest⟩ := h
   exact ret1x Try.results48 (res_tmp rfl) ⟨rfi0, rfl, hrest⟩
  all_goals exact (h : False).elim
 refine c_sr ?_
 refine pl_val (.int .i64 0) (y_assign rfl) ?_
 refine c_nil ?_
 refine c_seq ?_
 refine c_sr ?_
 refine pl_val (.int .i64 0) (y_assign rfl) ?_
 refine c_nil ?_
 obtain ⟨o29, b0, hs⟩ := bind_some hs
 refine wp_block ?_
 refine wp_iter (id := 0) (I := fun s25 a a0 => ∃ (σ : Nat → Value) (a2 : List Nat), a = fr 19 (ovl σ [(0, (.slice pa0 pn0 pc0)), (1, (.int .i64 s25.1)), (5, (.int .i64 s25.2.1))]) ∧ Chg (pf0 ++ ([])) w a0 ∧ Own (Nw w (pf0 ++ ([]))) M a0 (a2 ++ []) ∧ (RT.os 3 (RT.int .i64)).val M a0 (.slice pa0 pn0 pc0) s25.2.2 a2) (J := fun s25 a a0 => ∃ (σ : Nat → Value) (a3 : List Nat), a = fr 19 (ovl σ [(1, (.int .i64 s25.1))]) ∧ Chg (pf0 ++ ([])) w a0 ∧ Own (Nw w (pf0 ++ ([]))) M a0 (a3 ++ []) ∧ (RT.os 3 (RT.int .i64)).val M a0 (.slice pa0 pn0 pc0) s25.2.2 a3) (K := (k_laws_markIntS M w pa0 pn0 pc0 pf0)) ?_ FU (k, 0, a_) o29 _ _ ?_ b0 ?_
 ·rintro s25 o29 a a0 ⟨σ, a2, rfl, hC, hO, a1⟩ hs
  refine c_seq ?_
  refine c_sr ?_
  refine pl_val (.int .i64 s25.2.1) (y_move rfl) ?_
  refine pl_val (.slice pa0 pn0 pc0) (y_move rfl) ?_
  refine pl_val (.int .i64 (s25.2.2.length : Int)) (y_len' Sl37 (os_len a1) rfl) ?_
  refine pl_val (.bool (decide (s25.2.1 < (s25.2.2.length : Int)))) (y_lss rfl rfl) ?_
  refine c_nil ?_
  rcases bif_some hs with ⟨a4, hs⟩ | ⟨a4, hs⟩
  ·refine c_condT (congrArg Value.bool a4) ?_
   refine wp_skip ?_
   refine c_seq ?_
   refine wp_block ?_
   refine c_sr ?_
   refine pl_val (.slice pa0 pn0 pc0) (y_move rfl) ?_
   refine pl_val (.int .i64 s25.2.1) (y_move rfl) ?_
   refine pl_val (.int .i64 s25.1) (y_move rfl) ?_
   obtain ⟨x34, b1, hs⟩ := bind_some hs
   obtain ⟨a6, c1, a7, b2, b3, c2, c3⟩ := os_idx Sl37 Sz3 a1 b1
   refine pl_val (.pointer (some ⟨a6, 0 + Int.toNat s25.2.1 * 1, none⟩)) (b3 _ _ _ _ _ _ _ _ _ rfl rfl) ?_
   obtain ⟨b4, b5, b6, a8, b7, a5⟩ := os_store (P := Try.prog) (c' := [(.int .i64 s25.1)]) a7 a1 b2 (fun g hg => hO.inM g (os_block a1 g (by simpa using hg))) ⟨rfl, rfl⟩ List.nodup_nil (fun _ h => nomatch h) (fun _ h => .inl h)
   have b8 : ∀ q ∈ [a6], q ∈ a2 := fun q hq => os_block a1 q (by rw [a7]; exact hq)
   refine pl_skip (w' := b4) (ys_store rfl rfl (b6 _ _ rfl Sz3)) ?_
   have hC := hC.st a8 hO b8
   have hO := hO.grow a8 (fun q hq => .inl ((b7 q hq).resolve_right (fun h => nomatch h))) (os_nodup a5) a5.fpl
   refine c_nil ?_
   refine c_region ?_
   refine pl_val (.int .i64 s25.1) (y_move rfl) ?_
   refine pl_val (.int .i64 (w64 (s25.1 + 1))) (y_add rfl rfl) ?_
   refine pl_val (.int .i64 (w64 (s25.1 + 1))) (y_assign rfl) ?_
   refine c_nil ?_
   refine c_region ?_
   refine pl_val (.int .i64 s25.2.1) (y_move rfl) ?_
   refine pl_val (.int .i64 (w64 (s25.2.1 + 1))) (y_add rfl rfl) ?_
   refine pl_val (.int .i64 (w64 (s25.2.1 + 1))) (y_assign rfl) ?_
   refine c_nil ?_
   cases hs
   exact ⟨_, b5, fr_ovl 19 ⟨rfl, rfl, rfl, trivial⟩, hC, hO, a5⟩
  refine c_condF (congrArg Value.bool a4) ?_
  refine wp_exit ?_
  cases hs
  exact ⟨rfl, _, a2, fr_ovl 19 ⟨rfl, trivial⟩, hC, hO, a1⟩
 ·skip
  exact ⟨_, pf0, fr_ovl 19 ⟨rfl, rfl, rfl, trivial⟩, hC, hO, h0⟩
 cases o29 with
 | nx _ => exact True.intro
 | rt r_ =>
  have hs := after_rt hs
  intro b9 a9 hK
  cases hs
  exact hK
 | br s25 =>
  have hs := after_br hs
  rintro b9 a0 ⟨σ, a3, rfl, hC, hO, c0⟩
  refine c_sr ?_
  refine pl_val (.int .i64 s25.1) (y_move rfl) ?_
  refine pl_val (.int .i64 s25.1) (y_assign rfl) ?_
  refine c_nil ?_
  refine wp_ret ?_
  cases hs
  exact ⟨_, a3, fr_ovl 19 ⟨rfl, trivial⟩, hC, c0, hO.top⟩

theorem Bd48 : Bodied Try.prog 48 := bodied Try.func48 (by kernel_rfl) rfl

end Go.Proofs
