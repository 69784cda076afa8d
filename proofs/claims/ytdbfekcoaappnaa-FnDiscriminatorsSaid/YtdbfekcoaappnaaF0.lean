/- What functions of the program compute, as plain functions, and that a call gives just that. Conditions: those named in each theorem. -/
import Derived.Test.YtdbfekcoaappnaaGPtr
import Derived.Test.YtdbfekcoaappnaaRows
set_option linter.unusedVariables false
namespace Go.Proofs
open Go.G Go.RowKit
set_option maxRecDepth 100000

theorem Sl22 : SlT Try.prog 22 5 := Try.underlying22

def k_laws_vBig (M : Nat → Prop) (w0 : World) (r : Bool) (a : Act) (w : World) : Prop :=
  ∃ (σ : Nat → Value) , a = fr 6 (ovl σ [(2, (.bool r))]) ∧ Chg [] w0 w
def s_laws_vBig (code : List Int) : Option (Bool) :=
  some (decide (65536 < (code.length : Int)))
set_option maxHeartbeats 4000000 in
theorem c_laws_vBig {M : Nat → Prop} {w : World} {pa0 : Option Addr} {pn0 pc0 : Nat} (code : List Int) (h0 : (RT.rs (RT.int .u8)).val M w (.slice pa0 pn0 pc0) code ([])) (hM : ∀ g, w.heap.size ≤ g → M g) {r : Bool} (hs : s_laws_vBig code = some r) :
    Gives Try.prog 5 [(.slice pa0 pn0 pc0)] w (fun v w' => v = (.bool r) ∧ Chg [] w w') := by
 refine calls_fr Try.func5 rfl Try.ntmps5 (Nat.le_of_ble_eq_true rfl) ?_
 have hO := Own.start (N := Nw w []) hM Nw.fut
 have hC := Chg.refl [] w
 unfold s_laws_vBig at hs
 refine wp_mono (Q := KPost (k_laws_vBig M w r)) ?_ (fun e a a0 h => ?_)
 rotate_left
 ·cases e
  case ret =>
   obtain ⟨σ, rfl, hrest⟩ := h
   exact ret1x Try.results5 (res_tmp rfl) ⟨rfl, hrest⟩
  all_goals exact (h : False).elim
 refine c_sr ?_
 refine pl_val (.bool false) (y_assign rfl) ?_
 refine c_nil ?_
 refine c_sr ?_
 refine pl_val (.slice pa0 pn0 pc0) (y_move rfl) ?_
 refine pl_val (.int .i64 (code.length : Int)) (y_len' Sl22 (rs_len h0) rfl) ?_
 refine pl_val (.bool (decide (65536 < (code.length : Int)))) (y_gtr rfl rfl) ?_
 refine pl_val (.bool (decide (65536 < (code.length : Int)))) (y_assign rfl) ?_
 refine c_nil ?_
 refine wp_ret ?_
 cases hs
 exact ⟨_, fr_ovl 6 ⟨rfl, trivial⟩, hC⟩

theorem Mx : Try.prog.follows .mixedOrders = true := by kernel_rfl

theorem Fa53x1 : ∀ (a : Addr) (w : World), (Instr.fieldAt 53 (.pointer (some a)) 1).run Try.prog w = .ok (.pointer (some (a.add 1))) w := fun _ _ => by kernel_rfl

theorem Ag3 : AggT Try.prog 3 false := fun _ => by kernel_rfl

theorem Sz3 : SzT Try.prog 3 1 := ⟨_, rfl, rfl⟩

theorem Fa53x0 : ∀ (a : Addr) (w : World), (Instr.fieldAt 53 (.pointer (some a)) 0).run Try.prog w = .ok (.pointer (some (a.add 0))) w := fun _ _ => by kernel_rfl

theorem Ag22 : AggT Try.prog 22 false := fun _ => by kernel_rfl

theorem Sz22 : SzT Try.prog 22 1 := ⟨_, rfl, rfl⟩

theorem Sz5 : SzT Try.prog 5 1 := ⟨_, rfl, rfl⟩

theorem Ag5 : AggT Try.prog 5 false := fun _ => by kernel_rfl

theorem Fa53x2 : ∀ (a : Addr) (w : World), (Instr.fieldAt 53 (.pointer (some a)) 2).run Try.prog w = .ok (.pointer (some (a.add 2))) w := fun _ _ => by kernel_rfl

theorem Ag51 : AggT Try.prog 51 false := fun _ => by kernel_rfl

theorem Sz51 : SzT Try.prog 51 1 := ⟨_, rfl, rfl⟩

def k_spec_l1Cur__next (M : Nat → Prop) (w0 : World) (vg0 : Nat) (va0x0 : Option Addr) (vn0x0 vc0x0 : Nat) (b0 : (List Int) × Int × Int) (r : Int × Int × Int) (a : Act) (w : World) : Prop :=
  ∃ (σ : Nat → Value) , a = fr 62 (ovl σ [(2, (.int .i64 r.1))]) ∧ Chg ([vg0] ++ ([])) w0 w ∧ BoxV w vg0 53 [(.slice va0x0 vn0x0 vc0x0), (.int .i64 r.2.1), (.int .u64 r.2.2)] ∧ Own (Nw w0 ([vg0] ++ ([]))) (fun _ => True) w ([vg0] ++ ([]))
def s_spec_l1Cur__next (b0 : (List Int) × Int × Int) : Option (Int × Int × Int) :=
  (bif (decide (b0.2.1 < (b0.1.length : Int))) then (idx b0.1 b0.2.1).bind fun x16 =>
  some (w64 x16) else some 0).bind fun s11 =>
  (bif (decide ((w64 (b0.2.1 + 1)) ≤ (b0.1.length : Int))) then some (s11, w64 (b0.2.1 + 1), IntKind.u64.wrap ((IntKind.u64.wrap ((IntKind.u64.wrap (b0.2.2 * 6364136223846793005)) + (IntKind.u64.wrap s11))) + 550289)) else some (w64 (iand .u64 (ishr .u64 (IntKind.u64.wrap ((IntKind.u64.wrap ((IntKind.u64.wrap (b0.2.2 * 6364136223846793005)) + (IntKind.u64.wrap s11))) + 550289)) 40) 255), w64 (b0.2.1 + 1), IntKind.u64.wrap ((IntKind.u64.wrap ((IntKind.u64.wrap (b0.2.2 * 6364136223846793005)) + (IntKind.u64.wrap s11))) + 550289)))
set_option maxHeartbeats 4000000 in
theorem c_spec_l1Cur__next {M : Nat → Prop} {w : World} {vg0 : Nat} {va0x0 : Option Addr} {vn0x0 vc0x0 : Nat} (b0 : (List Int) × Int × Int) (hb0 : BoxV w vg0 53 [(.slice va0x0 vn0x0 vc0x0), (.int .i64 b0.2.1), (.int .u64 b0.2.2)]) (hl0x0 : (RT.rs (RT.int .u8)).val M w (.slice va0x0 vn0x0 vc0x0) b0.1 ([])) (hI : Own (Nw w ([vg0] ++ ([]))) M w ([vg0] ++ ([]))) (hM : ∀ g, w.heap.size ≤ g → M g) {r : Int × Int × Int} (hs : s_spec_l1Cur__next b0 = some r) :
    Gives Try.prog 88 [(.pointer (some ⟨vg0, 0, none⟩))] w (fun v w' => v = (.int .i64 r.1) ∧ Chg ([vg0] ++ ([])) w w' ∧ BoxV w' vg0 53 [(.slice va0x0 vn0x0 vc0x0), (.int .i64 r.2.1), (.int .u64 r.2.2)] ∧ Own (Nw w ([vg0] ++ ([]))) (fun _ => True) w' ([vg0] ++ ([]))) := by
 refine calls_fr Try.func88 rfl Try.ntmps88 (Nat.le_of_ble_eq_true rfl) ?_
 have hO := hI
 have hC := Chg.refl ([vg0] ++ ([])) w
 unfold s_spec_l1Cur__next at hs
 refine wp_mono (Q := KPost (k_spec_l1Cur__next M w vg0 va0x0 vn0x0 vc0x0 b0 r)) ?_ (fun e a c4 h => ?_)
 rotate_left
 ·cases e
  case ret =>
   obtain ⟨σ, rfl, hrest⟩ := h
   exact ret1x Try.results88 (res_tmp rfl) ⟨rfl, hrest⟩
  all_goals exact (h : False).elim
 refine c_sr ?_
 refine pl_val (.int .i64 0) (y_assign rfl) ?_
 refine c_nil ?_
 refine c_sr ?_
 refine pl_val (.int .i64 0) (y_assign rfl) ?_
 refine c_nil ?_
 refine c_seq ?_
 refine c_seq ?_
 refine x_start [] Mx rfl ?_
 have a1 := Chg.drew w
 generalize World.drew w = a7 at a1 ⊢
 have hl0x0 := hl0x0.ext a1
 have hb0 := hb0.cn a1
 have hC := hC.ext a1
 have hO := hO.ext a1
 have hS := Chg.refl [] a7
 refine x_p 0 (.pointer (some ⟨vg0, 0, none⟩)) rfl (by kernel_rfl)  (fun _ => y_move rfl) (fun _ => hS) ?_
 refine x_p 1 (.pointer (some ⟨vg0, 0, none⟩)) rfl (by kernel_rfl)  (fun _ => y_nilc rfl) (fun _ => hS) ?_
 refine x_p 2 (.pointer (some ⟨vg0, 1, none⟩)) rfl (by kernel_rfl)  (fun _ => y_faddr rfl Fa53x1) (fun _ => hS) ?_
 refine x_l 3 (.int .i64 b0.2.1) rfl (by kernel_rfl)  (fun w' hw' => y_load rfl ((box_load Ag3 Sz3 hb0 [(.slice va0x0 vn0x0 vc0x0)] [(.int .i64 b0.2.1)] [(.int .u64 b0.2.2)] rfl rfl (fun _ => rfl)) w' hw')) hS ?_
 refine x_p 4 (.pointer (some ⟨vg0, 0, none⟩)) rfl (by kernel_rfl)  (fun _ => y_move rfl) (fun _ => hS) ?_
 refine x_p 5 (.pointer (some ⟨vg0, 0, none⟩)) rfl (by kernel_rfl)  (fun _ => y_nilc rfl) (fun _ => hS) ?_
 refine x_p 6 (.pointer (some ⟨vg0, 0, none⟩)) rfl (by kernel_rfl)  (fun _ => y_faddr rfl Fa53x0) (fun _ => hS) ?_
 refine x_l 7 (.slice va0x0 vn0x0 vc0x0) rfl (by kernel_rfl)  (fun w' hw' => y_load rfl ((box_load Ag22 Sz22 hb0 [] [(.slice va0x0 vn0x0 vc0x0)] [(.int .i64 b0.2.1), (.int .u64 b0.2.2)] rfl rfl (fun _ => rfl)) w' hw')) hS ?_
 refine x_p 8 (.int .i64 (b0.1.length : Int)) rfl (by kernel_rfl)  (fun _ => y_len' Sl22 (rs_len hl0x0) rfl) (fun _ => hS) ?_
 refine x_p 9 (.bool (decide (b0.2.1 < (b0.1.length : Int)))) rfl (by kernel_rfl)  (fun _ => y_lss rfl rfl) (fun _ => hS) ?_
 refine x_end (by kernel_rfl) ?_
 clear hS
 obtain ⟨s11, b4, hs⟩ := bind_some hs
 refine c_mid (I := fun a a2 => ∃ (σ : Nat → Value), a = fr 62 (ovl σ [(0, (.pointer (some ⟨vg0, 0, none⟩))), (3, (.int .i64 s11))]) ∧ Chg ([vg0] ++ ([])) w a2 ∧ Own (Nw w ([vg0] ++ ([]))) M a2 (([vg0]) ++ []) ∧ (RT.rs (RT.int .u8)).val M a2 (.slice va0x0 vn0x0 vc0x0) b0.1 ([]) ∧ BoxV a2 vg0 53 [(.slice va0x0 vn0x0 vc0x0), (.int .i64 b0.2.1), (.int .u64 b0.2.2)]) ?_ ?_
 ·replace hs := b4
  rcases bif_some hs with ⟨a8, hs⟩ | ⟨a8, hs⟩
  ·refine c_condT (congrArg Value.bool a8) ?_
   refine x_start [] Mx rfl ?_
   have a3 := Chg.drew a7
   generalize World.drew a7 = b5 at a3 ⊢
   have hl0x0 := hl0x0.ext a3
   have hb0 := hb0.cn a3
   have hC := hC.ext a3
   have hO := hO.ext a3
   have hS := Chg.refl [] b5
   refine x_p 0 (.pointer (some ⟨vg0, 0, none⟩)) rfl (by kernel_rfl)  (fun _ => y_move rfl) (fun _ => hS) ?_
   refine x_p 1 (.pointer (some ⟨vg0, 0, none⟩)) rfl (by kernel_rfl)  (fun _ => y_nilc rfl) (fun _ => hS) ?_
   refine x_p 2 (.pointer (some ⟨vg0, 0, none⟩)) rfl (by kernel_rfl)  (fun _ => y_faddr rfl Fa53x0) (fun _ => hS) ?_
   refine x_l 3 (.slice va0x0 vn0x0 vc0x0) rfl (by kernel_rfl)  (fun w' hw' => y_load rfl ((box_load Ag22 Sz22 hb0 [] [(.slice va0x0 vn0x0 vc0x0)] [(.int .i64 b0.2.1), (.int .u64 b0.2.2)] rfl rfl (fun _ => rfl)) w' hw')) hS ?_
   refine x_p 4 (.pointer (some ⟨vg0, 0, none⟩)) rfl (by kernel_rfl)  (fun _ => y_move rfl) (fun _ => hS) ?_
   refine x_p 5 (.pointer (some ⟨vg0, 0, none⟩)) rfl (by kernel_rfl)  (fun _ => y_nilc rfl) (fun _ => hS) ?_
   refine x_p 6 (.pointer (some ⟨vg0, 1, none⟩)) rfl (by kernel_rfl)  (fun _ => y_faddr rfl Fa53x1) (fun _ => hS) ?_
   refine x_l 7 (.int .i64 b0.2.1) rfl (by kernel_rfl)  (fun w' hw' => y_load rfl ((box_load Ag3 Sz3 hb0 [(.slice va0x0 vn0x0 vc0x0)] [(.int .i64 b0.2.1)] [(.int .u64 b0.2.2)] rfl rfl (fun _ => rfl)) w' hw')) hS ?_
   obtain ⟨x16, b6, hs⟩ := bind_some hs
   obtain ⟨b7, b8, b9, c0⟩ := rs_idx Sl22 Sz5 hl0x0 b6
   refine x_p 8 (.pointer (some ⟨b7, b8, none⟩)) rfl (by kernel_rfl)  (fun _ => b9 _ _ _ _ _ _ _ _ _ rfl rfl) (fun _ => hS) ?_
   refine x_l 9 (.int .u8 x16) rfl (by kernel_rfl)  (fun w' hw' => y_load rfl ((at_load_int Ag5 Sz5 c0) w' hw')) hS ?_
   refine x_one (i := 10) (by kernel_rfl) ?_
   refine xk_val (b := false) (.int .i64 (w64 x16)) rfl  (y_conv_int Try.underlying5 Try.underlying3 rfl) rfl (fun _ => hS) ?_
   refine x_p 11 (.int .i64 (w64 x16)) rfl (by kernel_rfl)  (fun _ => y_assign rfl) (fun _ => hS) ?_
   refine x_end (by kernel_rfl) ?_
   clear hS
   cases hs
   exact ⟨_, fr_ovl 62 ⟨rfl, rfl, trivial⟩, hC, hO, hl0x0, hb0⟩
  refine c_condF (congrArg Value.bool a8) ?_
  refine wp_skip ?_
  cases hs
  exact ⟨_, fr_ovl 62 ⟨rfl, rfl, trivial⟩, hC, hO, hl0x0, hb0⟩
 rintro c5 a2 ⟨σ, rfl, hC, hO, hl0x0, hb0⟩
 refine c_sr ?_
 refine pl_val (.pointer (some ⟨vg0, 0, none⟩)) (y_move rfl) ?_
 refine pl_val (.pointer (some ⟨vg0, 0, none⟩)) (y_nilc rfl) ?_
 refine pl_val (.pointer (some ⟨vg0, 1, none⟩)) (y_faddr rfl Fa53x1) ?_
 refine pl_val (.int .i64 b0.2.1) (y_load rfl ((box_load Ag3 Sz3 hb0 [(.slice va0x0 vn0x0 vc0x0)] [(.int .i64 b0.2.1)] [(.int .u64 b0.2.2)] rfl rfl (fun _ => rfl)) _ (Chg.refl _ _))) ?_
 refine pl_val (.int .i64 (w64 (b0.2.1 + 1))) (y_add rfl rfl) ?_
 refine pl_val (.pointer (some ⟨vg0, 0, none⟩)) (y_nilc rfl) ?_
 refine pl_val (.pointer (some ⟨vg0, 1, none⟩)) (y_faddr rfl Fa53x1) ?_
 obtain ⟨b3, c1, a9, a5⟩ := box_store (P := Try.prog) hb0 [(.slice va0x0 vn0x0 vc0x0)] [(.int .i64 b0.2.1)] [(.int .u64 b0.2.2)] [(.int .i64 (w64 (b0.2.1 + 1)))] rfl rfl (by intro u hu; simp only [List.mem_cons, List.not_mem_nil, or_false] at hu; rcases hu with rfl <;> rfl)
 refine pl_skip (w' := b3) (ys_store rfl rfl (c1 _ _ rfl Sz3)) ?_
 have hl0x0 := hl0x0.mt a9 hO same_
 have hC := hC.st a9 hO same_
 have hO := hO.ext a9
 have a5 : BoxV b3 vg0 53 [(.slice va0x0 vn0x0 vc0x0), (.int .i64 (w64 (b0.2.1 + 1))), (.int .u64 b0.2.2)] := a5
 refine c_nil ?_
 refine c_sr ?_
 refine pl_val (.pointer (some ⟨vg0, 0, none⟩)) (y_move rfl) ?_
 refine pl_val (.pointer (some ⟨vg0, 0, none⟩)) (y_move rfl) ?_
 refine pl_val (.pointer (some ⟨vg0, 0, none⟩)) (y_nilc rfl) ?_
 refine pl_val (.pointer (some ⟨vg0, 2, none⟩)) (y_faddr rfl Fa53x2) ?_
 refine pl_val (.int .u64 b0.2.2) (y_load rfl ((box_load Ag51 Sz51 a5 [(.slice va0x0 vn0x0 vc0x0), (.int .i64 (w64 (b0.2.1 + 1)))] [(.int .u64 b0.2.2)] [] rfl rfl (fun _ => rfl)) _ (Chg.refl _ _))) ?_
 refine pl_val (.int .u64 (IntKind.u64.wrap (b0.2.2 * 6364136223846793005))) (y_mul rfl rfl) ?_
 refine pl_val (.int .i64 s11) (y_move rfl) ?_
 refine pl_val (.int .u64 (IntKind.u64.wrap s11)) (y_conv_int Try.underlying3 Try.underlying51 rfl) ?_
 refine pl_val (.int .u64 (IntKind.u64.wrap ((IntKind.u64.wrap (b0.2.2 * 6364136223846793005)) + (IntKind.u64.wrap s11)))) (y_add rfl rfl) ?_
 refine pl_val (.int .u64 (IntKind.u64.wrap ((IntKind.u64.wrap ((IntKind.u64.wrap (b0.2.2 * 6364136223846793005)) + (IntKind.u64.wrap s11))) + 550289))) (y_add rfl rfl) ?_
 refine pl_val (.pointer (some ⟨vg0, 0, none⟩)) (y_nilc rfl) ?_
 refine pl_val (.pointer (some ⟨vg0, 2, none⟩)) (y_faddr rfl Fa53x2) ?_
 obtain ⟨a6, c2, b1, a0⟩ := box_store (P := Try.prog) a5 [(.slice va0x0 vn0x0 vc0x0), (.int .i64 (w64 (b0.2.1 + 1)))] [(.int .u64 b0.2.2)] [] [(.int .u64 (IntKind.u64.wrap ((IntKind.u64.wrap ((IntKind.u64.wrap (b0.2.2 * 6364136223846793005)) + (IntKind.u64.wrap s11))) + 550289)))] rfl rfl (by intro u hu; simp only [List.mem_cons, List.not_mem_nil, or_false] at hu; rcases hu with rfl <;> rfl)
 refine pl_skip (w' := a6) (ys_store rfl rfl (c2 _ _ rfl Sz51)) ?_
 have hl0x0 := hl0x0.mt b1 hO same_
 have hC := hC.st b1 hO same_
 have hO := hO.ext b1
 have a0 : BoxV a6 vg0 53 [(.slice va0x0 vn0x0 vc0x0), (.int .i64 (w64 (b0.2.1 + 1))), (.int .u64 (IntKind.u64.wrap ((IntKind.u64.wrap ((IntKind.u64.wrap (b0.2.2 * 6364136223846793005)) + (IntKind.u64.wrap s11))) + 550289)))] := a0
 refine c_nil ?_
 refine c_seq ?_
 refine c_seq ?_
 refine x_start [] Mx rfl ?_
 have a4 := Chg.drew a6
 generalize World.drew a6 = c3 at a4 ⊢
 have hl0x0 := hl0x0.ext a4
 have a0 := a0.cn a4
 have hC := hC.ext a4
 have hO := hO.ext a4
 have hS := Chg.refl [] c3
 refine x_p 0 (.pointer (some ⟨vg0, 0, none⟩)) rfl (by kernel_rfl)  (fun _ => y_move rfl) (fun _ => hS) ?_
 refine x_p 1 (.pointer (some ⟨vg0, 0, none⟩)) rfl (by kernel_rfl)  (fun _ => y_nilc rfl) (fun _ => hS) ?_
 refine x_p 2 (.pointer (some ⟨vg0, 1, none⟩)) rfl (by kernel_rfl)  (fun _ => y_faddr rfl Fa53x1) (fun _ => hS) ?_
 refine x_l 3 (.int .i64 (w64 (b0.2.1 + 1))) rfl (by kernel_rfl)  (fun w' hw' => y_load rfl ((box_load Ag3 Sz3 a0 [(.slice va0x0 vn0x0 vc0x0)] [(.int .i64 (w64 (b0.2.1 + 1)))] [(.int .u64 (IntKind.u64.wrap ((IntKind.u64.wrap ((IntKind.u64.wrap (b0.2.2 * 6364136223846793005)) + (IntKind.u64.wrap s11))) + 550289)))] rfl rfl (fun _ => rfl)) w' hw')) hS ?_
 refine x_p 4 (.pointer (some ⟨vg0, 0, none⟩)) rfl (by kernel_rfl)  (fun _ => y_move rfl) (fun _ => hS) ?_
 refine x_p 5 (.pointer (some ⟨vg0, 0, none⟩)) rfl (by kernel_rfl)  (fun _ => y_nilc rfl) (fun _ => hS) ?_
 refine x_p 6 (.pointer (some ⟨vg0, 0, none⟩)) rfl (by kernel_rfl)  (fun _ => y_faddr rfl Fa53x0) (fun _ => hS) ?_
 refine x_l 7 (.slice va0x0 vn0x0 vc0x0) rfl (by kernel_rfl)  (fun w' hw' => y_load rfl ((box_load Ag22 Sz22 a0 [] [(.slice va0x0 vn0x0 vc0x0)] [(.int .i64 (w64 (b0.2.1 + 1))), (.int .u64 (IntKind.u64.wrap ((IntKind.u64.wrap ((IntKind.u64.wrap (b0.2.2 * 6364136223846793005)) + (IntKind.u64.wrap s11))) + 550289)))] rfl rfl (fun _ => rfl)) w' hw')) hS ?_
 refine x_p 8 (.int .i64 (b0.1.length : Int)) rfl (by kernel_rfl)  (fun _ => y_len' Sl22 (rs_len hl0x0) rfl) (fun _ => hS) ?_
 refine x_p 9 (.bool (decide ((w64 (b0.2.1 + 1)) ≤ (b0.1.length : Int)))) rfl (by kernel_rfl)  (fun _ => y_leq rfl rfl) (fun _ => hS) ?_
 refine x_end (by kernel_rfl) ?_
 clear hS
 rcases bif_some hs with ⟨b2, hs⟩ | ⟨b2, hs⟩
 ·refine c_condT (congrArg Value.bool b2) ?_
  refine c_sr ?_
  refine pl_val (.int .i64 s11) (y_move rfl) ?_
  refine pl_val (.int .i64 s11) (y_assign rfl) ?_
  refine c_nil ?_
  refine wp_ret ?_
  cases hs
  exact ⟨_, fr_ovl 62 ⟨rfl, trivial⟩, hC, a0, hO.top⟩
 refine c_condF (congrArg Value.bool b2) ?_
 refine wp_skip ?_
 refine c_sr ?_
 refine pl_val (.pointer (some ⟨vg0, 0, none⟩)) (y_move rfl) ?_
 refine pl_val (.pointer (some ⟨vg0, 0, none⟩)) (y_nilc rfl) ?_
 refine pl_val (.pointer (some ⟨vg0, 2, none⟩)) (y_faddr rfl Fa53x2) ?_
 refine pl_val (.int .u64 (IntKind.u64.wrap ((IntKind.u64.wrap ((IntKind.u64.wrap (b0.2.2 * 6364136223846793005)) + (IntKind.u64.wrap s11))) + 550289))) (y_load rfl ((box_load Ag51 Sz51 a0 [(.slice va0x0 vn0x0 vc0x0), (.int .i64 (w64 (b0.2.1 + 1)))] [(.int .u64 (IntKind.u64.wrap ((IntKind.u64.wrap ((IntKind.u64.wrap (b0.2.2 * 6364136223846793005)) + (IntKind.u64.wrap s11))) + 550289)))] [] rfl rfl (fun _ => rfl)) _ (Chg.refl _ _))) ?_
 refine pl_val (.int .u64 (ishr .u64 (IntKind.u64.wrap ((IntKind.u64.wrap ((IntKind.u64.wrap (b0.2.2 * 6364136223846793005)) + (IntKind.u64.wrap s11))) + 550289)) 40)) (y_shr rfl rfl (by decide)) ?_
 refine pl_val (.int .u64 (iand .u64 (ishr .u64 (IntKind.u64.wrap ((IntKind.u64.wrap ((IntKind.u64.wrap (b0.2.2 * 6364136223846793005)) + (IntKind.u64.wrap s11))) + 550289)) 40) 255)) (y_and rfl rfl) ?_
 refine pl_val (.int .i64 (w64 (iand .u64 (ishr .u64 (IntKind.u64.wrap ((IntKind.u64.wrap ((IntKind.u64.wrap (b0.2.2 * 6364136223846793005)) + (IntKind.u64.wrap s11))) + 550289)) 40) 255))) (y_conv_int Try.underlying51 Try.underlying3 rfl) ?_
 refine pl_val (.int .i64 (w64 (iand .u64 (ishr .u64 (IntKind.u64.wrap ((IntKind.u64.wrap ((IntKind.u64.wrap (b0.2.2 * 6364136223846793005)) + (IntKind.u64.wrap s11))) + 550289)) 40) 255))) (y_assign rfl) ?_
 refine c_nil ?_
 refine wp_ret ?_
 cases hs
 exact ⟨_, fr_ovl 62 ⟨rfl, trivial⟩, hC, a0, hO.top⟩

theorem Bd88 : Bodied Try.prog 88 := bodied Try.func88 (by kernel_rfl) rfl

def k_spec_l1Cur__pick (M : Nat → Prop) (w0 : World) (vg0 : Nat) (va0x0 : Option Addr) (vn0x0 vc0x0 : Nat) (n : Int) (b0 : (List Int) × Int × Int) (r : Int × Int × Int) (a : Act) (w : World) : Prop :=
  ∃ (σ : Nat → Value) , a = fr 20 (ovl σ [(4, (.int .i64 r.1))]) ∧ Chg ([vg0] ++ ([])) w0 w ∧ BoxV w vg0 53 [(.slice va0x0 vn0x0 vc0x0), (.int .i64 r.2.1), (.int .u64 r.2.2)] ∧ Own (Nw w0 ([vg0] ++ ([]))) (fun _ => True) w ([vg0] ++ ([]))
def s_spec_l1Cur__pick (n : Int) (b0 : (List Int) × Int × Int) : Option (Int × Int × Int) :=
  (bif (decide (n ≤ 1)) then some (0, b0.2.1, b0.2.2) else (s_spec_l1Cur__next (b0.1, b0.2.1, b0.2.2)).bind fun r5 =>
  (bif (decide (200 < n)) then (s_spec_l1Cur__next (b0.1, r5.2.1, r5.2.2)).bind fun r8 =>
  (nz n).bind fun u9 =>
  some (Int.tmod (w64 ((w64 (r5.1 * 256)) + r8.1)) n, r8.2.1, r8.2.2) else (nz n).bind fun u10 =>
  some (Int.tmod r5.1 n, r5.2.1, r5.2.2)))
set_option maxHeartbeats 4000000 in
theorem c_spec_l1Cur__pick {M : Nat → Prop} {w : World} {vg0 : Nat} {va0x0 : Option Addr} {vn0x0 vc0x0 : Nat} (n : Int) (b0 : (List Int) × Int × Int) (hb0 : BoxV w vg0 53 [(.slice va0x0 vn0x0 vc0x0), (.int .i64 b0.2.1), (.int .u64 b0.2.2)]) (hl0x0 : (RT.rs (RT.int .u8)).val M w (.slice va0x0 vn0x0 vc0x0) b0.1 ([])) (hI : Own (Nw w ([vg0] ++ ([]))) M w ([vg0] ++ ([]))) (hM : ∀ g, w.heap.size ≤ g → M g) {r : Int × Int × Int} (hs : s_spec_l1Cur__pick n b0 = some r) :
    Gives Try.prog 62 [(.pointer (some ⟨vg0, 0, none⟩)), (.int .i64 n)] w (fun v w' => v = (.int .i64 r.1) ∧ Chg ([vg0] ++ ([])) w w' ∧ BoxV w' vg0 53 [(.slice va0x0 vn0x0 vc0x0), (.int .i64 r.2.1), (.int .u64 r.2.2)] ∧ Own (Nw w ([vg0] ++ ([]))) (fun _ => True) w' ([vg0] ++ ([]))) := by
 refine calls_fr Try.func62 rfl Try.ntmps62 (Nat.le_of_ble_eq_true rfl) ?_
 have hO := hI
 have hC := Chg.refl ([vg0] ++ ([])) w
 unfold s_spec_l1Cur__pick at hs
 refine wp_mono (Q := KPost (k_spec_l1Cur__pick M w vg0 va0x0 vn0x0 vc0x0 n b0 r)) ?_ (fun e a b9 h => ?_)
 rotate_left
 ·cases e
  case ret =>
   obtain ⟨σ, rfl, hrest⟩ := h
   exact ret1x Try.results62 (res_tmp rfl) ⟨rfl, hrest⟩
  all_goals exact (h : False).elim
 refine c_sr ?_
 refine pl_val (.int .i64 0) (y_assign rfl) ?_
 refine c_nil ?_
 refine c_seq ?_
 refine c_sr ?_
 refine pl_val (.int .i64 n) (y_move rfl) ?_
 refine pl_val (.bool (decide (n ≤ 1))) (y_leq rfl rfl) ?_
 refine c_nil ?_
 rcases bif_some hs with ⟨a1, hs⟩ | ⟨a1, hs⟩
 ·refine c_condT (congrArg Value.bool a1) ?_
  refine c_sr ?_
  refine pl_val (.int .i64 0) (y_assign rfl) ?_
  refine c_nil ?_
  refine wp_ret ?_
  cases hs
  exact ⟨_, fr_ovl 20 ⟨rfl, trivial⟩, hC, hb0, hO.top⟩
 refine c_condF (congrArg Value.bool a1) ?_
 refine wp_skip ?_
 refine c_sr ?_
 refine pl_val (.pointer (some ⟨vg0, 0, none⟩)) (y_move rfl) ?_
 have a8 := hO
 have a6 := Own.lend (F := (([vg0]) ++ ([]))) (R := []) (Own.perm (a8) (by simp))
 obtain ⟨r5, a9, hs⟩ := bind_some hs
 refine pl_call Bd88 rfl (c_spec_l1Cur__next (M := M) (b0.1, b0.2.1, b0.2.2) (show BoxV _ vg0 53 [(.slice va0x0 vn0x0 vc0x0), (.int .i64 b0.2.1), (.int .u64 b0.2.2)] from hb0) hl0x0 a6 a6.fut a9) ?_
 rintro _ b1 ⟨rfl, a2, a0, b2⟩
 have hO := hO.perm (R := (([vg0]) ++ ([])) ++ ([])) (by simp)
 have hl0x0 := hl0x0.mt a2 hO same_
 have hC := hC.st a2 hO same_
 have hO := Own.join hO a2 b2
 have hO := hO.perm (R := [vg0] ++ ([])) (by simp)
 have a0 : BoxV b1 vg0 53 [(.slice va0x0 vn0x0 vc0x0), (.int .i64 r5.2.1), (.int .u64 r5.2.2)] := a0
 refine pl_val (.int .i64 r5.1) (y_assign rfl) ?_
 refine c_nil ?_
 refine c_seq ?_
 refine c_sr ?_
 refine pl_val (.int .i64 n) (y_move rfl) ?_
 refine pl_val (.bool (decide (200 < n))) (y_gtr rfl rfl) ?_
 refine c_nil ?_
 rcases bif_some hs with ⟨a3, hs⟩ | ⟨a3, hs⟩
 ·refine c_condT (congrArg Value.bool a3) ?_
  refine c_region ?_
  refine pl_val (.int .i64 r5.1) (y_move rfl) ?_
  refine pl_val (.int .i64 (w64 (r5.1 * 256))) (y_mul rfl rfl) ?_
  refine pl_val (.pointer (some ⟨vg0, 0, none⟩)) (y_move rfl) ?_
  have b3 := hO
  have a7 := Own.lend (F := (([vg0]) ++ ([]))) (R := []) (Own.perm (b3) (by simp))
  obtain ⟨r8, b4, hs⟩ := bind_some hs
  refine pl_call Bd88 rfl (c_spec_l1Cur__next (M := M) (b0.1, r5.2.1, r5.2.2) (show BoxV _ vg0 53 [(.slice va0x0 vn0x0 vc0x0), (.int .i64 r5.2.1), (.int .u64 r5.2.2)] from a0) hl0x0 a7 a7.fut b4) ?_
  rintro _ b5 ⟨rfl, a4, a5, b6⟩
  have hO := hO.perm (R := (([vg0]) ++ ([])) ++ ([])) (by simp)
  have hl0x0 := hl0x0.mt a4 hO same_
  have hC := hC.st a4 hO same_
  have hO := Own.join hO a4 b6
  have hO := hO.perm (R := [vg0] ++ ([])) (by simp)
  have a5 : BoxV b5 vg0 53 [(.slice va0x0 vn0x0 vc0x0), (.int .i64 r8.2.1), (.int .u64 r8.2.2)] := a5
  refine pl_val (.int .i64 (w64 ((w64 (r5.1 * 256)) + r8.1))) (y_add rfl rfl) ?_
  refine pl_val (.int .i64 (w64 ((w64 (r5.1 * 256)) + r8.1))) (y_assign rfl) ?_
  refine c_nil ?_
  refine c_sr ?_
  refine pl_val (.int .i64 (w64 ((w64 (r5.1 * 256)) + r8.1))) (y_move rfl) ?_
  refine pl_val (.int .i64 n) (y_move rfl) ?_
  obtain ⟨u9, b7, hs⟩ := bind_some hs
  refine pl_val (.int .i64 (Int.tmod (w64 ((w64 (r5.1 * 256)) + r8.1)) n)) (y_rem rfl rfl (nz_ne b7)) ?_
  refine pl_val (.int .i64 (Int.tmod (w64 ((w64 (r5.1 * 256)) + r8.1)) n)) (y_assign rfl) ?_
  refine c_nil ?_
  refine wp_ret ?_
  cases hs
  exact ⟨_, fr_ovl 20 ⟨rfl, trivial⟩, hC, a5, hO.top⟩
 refine c_condF (congrArg Value.bool a3) ?_
 refine wp_skip ?_
 refine c_sr ?_
 refine pl_val (.int .i64 r5.1) (y_move rfl) ?_
 refine pl_val (.int .i64 n) (y_move rfl) ?_
 obtain ⟨u10, b8, hs⟩ := bind_some hs
 refine pl_val (.int .i64 (Int.tmod r5.1 n)) (y_rem rfl rfl (nz_ne b8)) ?_
 refine pl_val (.int .i64 (Int.tmod r5.1 n)) (y_assign rfl) ?_
 refine c_nil ?_
 refine wp_ret ?_
 cases hs
 exact ⟨_, fr_ovl 20 ⟨rfl, trivial⟩, hC, a0, hO.top⟩

theorem Sl25 : SlT Try.prog 25 3 := Try.underlying25

theorem Bd62 : Bodied Try.prog 62 := bodied Try.func62 (by kernel_rfl) rfl

def k_spec_l1Cur__among (M : Nat → Prop) (w0 : World) (vg0 : Nat) (pa0 : Option Addr) (pn0 pc0 : Nat) (va0x0 : Option Addr) (vn0x0 vc0x0 : Nat) (list : List Int) (b0 : (List Int) × Int × Int) (r : Int × Int × Int) (a : Act) (w : World) : Prop :=
  ∃ (σ : Nat → Value) , a = fr 12 (ovl σ [(4, (.int .i64 r.1))]) ∧ Chg ([vg0] ++ ([])) w0 w ∧ BoxV w vg0 53 [(.slice va0x0 vn0x0 vc0x0), (.int .i64 r.2.1), (.int .u64 r.2.2)] ∧ Own (Nw w0 ([vg0] ++ ([]))) (fun _ => True) w ([vg0] ++ ([]))
def s_spec_l1Cur__among (list : List Int) (b0 : (List Int) × Int × Int) : Option (Int × Int × Int) :=
  (s_spec_l1Cur__pick (list.length : Int) (b0.1, b0.2.1, b0.2.2)).bind fun r5 =>
  (idx list r5.1).bind fun x6 =>
  some (x6, r5.2.1, r5.2.2)
set_option maxHeartbeats 4000000 in
theorem c_spec_l1Cur__among {M : Nat → Prop} {w : World} {vg0 : Nat} {pa0 : Option Addr} {pn0 pc0 : Nat} {va0x0 : Option Addr} {vn0x0 vc0x0 : Nat} (list : List Int) (b0 : (List Int) × Int × Int) (h0 : (RT.rs (RT.int .i64)).val M w (.slice pa0 pn0 pc0) list ([])) (hb0 : BoxV w vg0 53 [(.slice va0x0 vn0x0 vc0x0), (.int .i64 b0.2.1), (.int .u64 b0.2.2)]) (hl0x0 : (RT.rs (RT.int .u8)).val M w (.slice va0x0 vn0x0 vc0x0) b0.1 ([])) (hI : Own (Nw w ([vg0] ++ ([]))) M w ([vg0] ++ ([]))) (hM : ∀ g, w.heap.size ≤ g → M g) {r : Int × Int × Int} (hs : s_spec_l1Cur__among list b0 = some r) :
    Gives Try.prog 61 [(.pointer (some ⟨vg0, 0, none⟩)), (.slice pa0 pn0 pc0)] w (fun v w' => v = (.int .i64 r.1) ∧ Chg ([vg0] ++ ([])) w w' ∧ BoxV w' vg0 53 [(.slice va0x0 vn0x0 vc0x0), (.int .i64 r.2.1), (.int .u64 r.2.2)] ∧ Own (Nw w ([vg0] ++ ([]))) (fun _ => True) w' ([vg0] ++ ([]))) := by
 refine calls_fr Try.func61 rfl Try.ntmps61 (Nat.le_of_ble_eq_true rfl) ?_
 have hO := hI
 have hC := Chg.refl ([vg0] ++ ([])) w
 unfold s_spec_l1Cur__among at hs
 refine wp_mono (Q := KPost (k_spec_l1Cur__among M w vg0 pa0 pn0 pc0 va0x0 vn0x0 vc0x0 list b0 r)) ?_ (fun e a b3 h => ?_)
 rotate_left
 ·cases e
  case ret =>
   obtain ⟨σ, rfl, hrest⟩ := h
   exact ret1x Try.results61 (res_tmp rfl) ⟨rfl, hrest⟩
  all_goals exact (h : False).elim
 refine c_sr ?_
 refine pl_val (.int .i64 0) (y_assign rfl) ?_
 refine c_nil ?_
 refine c_sr ?_
 refine pl_val (.slice pa0 pn0 pc0) (y_move rfl) ?_
 refine pl_val (.pointer (some ⟨vg0, 0, none⟩)) (y_move rfl) ?_
 refine pl_val (.slice pa0 pn0 pc0) (y_move rfl) ?_
 refine pl_val (.int .i64 (list.length : Int)) (y_len' Sl25 (rs_len h0) rfl) ?_
 have a3 := hO
 have a2 := Own.lend (F := (([vg0]) ++ ([]))) (R := []) (Own.perm (a3) (by simp))
 obtain ⟨r5, a4, hs⟩ := bind_some hs
 refine pl_call Bd62 rfl (c_spec_l1Cur__pick (M := M) (list.length : Int) (b0.1, b0.2.1, b0.2.2) (show BoxV _ vg0 53 [(.slice va0x0 vn0x0 vc0x0), (.int .i64 b0.2.1), (.int .u64 b0.2.2)] from hb0) hl0x0 a2 a2.fut a4) ?_
 rintro _ a5 ⟨rfl, a0, a1, a6⟩
 have hO := hO.perm (R := (([vg0]) ++ ([])) ++ ([])) (by simp)
 have h0 := h0.mt a0 hO same_
 have hl0x0 := hl0x0.mt a0 hO same_
 have hC := hC.st a0 hO same_
 have hO := Own.join hO a0 a6
 have hO := hO.perm (R := [vg0] ++ ([])) (by simp)
 have a1 : BoxV a5 vg0 53 [(.slice va0x0 vn0x0 vc0x0), (.int .i64 r5.2.1), (.int .u64 r5.2.2)] := a1
 obtain ⟨x6, a7, hs⟩ := bind_some hs
 obtain ⟨a8, a9, b1, b2⟩ := rs_idx Sl25 Sz3 h0 a7
 refine pl_val (.pointer (some ⟨a8, a9, none⟩)) (b1 _ _ _ _ _ _ _ _ _ rfl rfl) ?_
 refine pl_val (.int .i64 x6) (y_load rfl ((at_load_int Ag3 Sz3 b2) _ (Chg.refl _ _))) ?_
 refine pl_val (.int .i64 x6) (y_assign rfl) ?_
 refine c_nil ?_
 refine wp_ret ?_
 cases hs
 exact ⟨_, fr_ovl 12 ⟨rfl, trivial⟩, hC, a1, hO.top⟩

theorem Bd61 : Bodied Try.prog 61 := bodied Try.func61 (by kernel_rfl) rfl

def k_spec_l1Cur__size13 (M : Nat → Prop) (w0 : World) (vg0 : Nat) (va0x0 : Option Addr) (vn0x0 vc0x0 : Nat) (b0 : (List Int) × Int × Int) (r : Int × Int × Int) (a : Act) (w : World) : Prop :=
  ∃ (σ : Nat → Value) , a = fr 11 (ovl σ [(2, (.int .i64 r.1))]) ∧ Chg ([vg0] ++ ([])) w0 w ∧ BoxV w vg0 53 [(.slice va0x0 vn0x0 vc0x0), (.int .i64 r.2.1), (.int .u64 r.2.2)] ∧ Own (Nw w0 ([vg0] ++ ([]))) (fun _ => True) w ([vg0] ++ ([]))
def s_spec_l1Cur__size13 (b0 : (List Int) × Int × Int) : Option (Int × Int × Int) :=
  (s_spec_l1Cur__pick 24 (b0.1, b0.2.1, b0.2.2)).bind fun r6 =>
  (slc ([2, 3, 3, 4, 2, 1, 5, 8, 0, 9]) 0 (w64 (8 + (w64 (Int.tdiv r6.1 11))))).bind fun y8 =>
  (s_spec_l1Cur__among y8 (b0.1, r6.2.1, r6.2.2)).bind fun r11 =>
  some (r11.1, r11.2.1, r11.2.2)
set_option maxHeartbeats 4000000 in
theorem c_spec_l1Cur__size13 {M : Nat → Prop} {w : World} {vg0 : Nat} {va0x0 : Option Addr} {vn0x0 vc0x0 : Nat} (b0 : (List Int) × Int × Int) (hb0 : BoxV w vg0 53 [(.slice va0x0 vn0x0 vc0x0), (.int .i64 b0.2.1), (.int .u64 b0.2.2)]) (hl0x0 : (RT.rs (RT.int .u8)).val M w (.slice va0x0 vn0x0 vc0x0) b0.1 ([])) (hI : Own (Nw w ([vg0] ++ ([]))) M w ([vg0] ++ ([]))) (hM : ∀ g, w.heap.size ≤ g → M g) {r : Int × Int × Int} (hs : s_spec_l1Cur__size13 b0 = some r) :
    Gives Try.prog 31 [(.pointer (some ⟨vg0, 0, none⟩))] w (fun v w' => v = (.int .i64 r.1) ∧ Chg ([vg0] ++ ([])) w w' ∧ BoxV w' vg0 53 [(.slice va0x0 vn0x0 vc0x0), (.int .i64 r.2.1), (.int .u64 r.2.2)] ∧ Own (Nw w ([vg0] ++ ([]))) (fun _ => True) w' ([vg0] ++ ([]))) := by
 refine calls_fr Try.func31 rfl Try.ntmps31 (Nat.le_of_ble_eq_true rfl) ?_
 have hO := hI
 have hC := Chg.refl ([vg0] ++ ([])) w
 unfold s_spec_l1Cur__size13 at hs
 refine wp_mono (Q := KPost (k_spec_l1Cur__size13 M w vg0 va0x0 vn0x0 vc0x0 b0 r)) ?_ (fun e a c8 h => ?_)
 rotate_left
 ·cases e
  case ret =>
   obtain ⟨σ, rfl, hrest⟩ := h
   exact ret1x Try.results31 (res_tmp rfl) ⟨rfl, hrest⟩
  all_goals exact (h : False).elim
 refine c_sr ?_
 refine pl_val (.int .i64 0) (y_assign rfl) ?_
 refine c_nil ?_
 refine c_sr ?_
 refine pl_val (.pointer (some ⟨vg0, 0, none⟩)) (y_move rfl) ?_
 obtain ⟨a9, a0, b5, b1, a3, b2⟩ := new_block w [(.int .i64 2), (.int .i64 3), (.int .i64 3), (.int .i64 4), (.int .i64 2), (.int .i64 1), (.int .i64 5), (.int .i64 8), (.int .i64 0), (.int .i64 9)] 3
 refine pl_val (w' := a9) (.slice (some ⟨a0, 0, none⟩) 10 10) (y_bslice rfl (by rw [b5, b1]; kernel_rfl)) ?_
 have hl0x0 := hl0x0.ext a3
 have hb0 := hb0.cn a3
 have hC := hC.ext a3
 have hO := hO.new1 a3 b1 b2.lt
 have a1 := os_of_box (r := (RT.int .i64)) (M := M) (css := [[(.int .i64 2)], [(.int .i64 3)], [(.int .i64 3)], [(.int .i64 4)], [(.int .i64 2)], [(.int .i64 1)], [(.int .i64 5)], [(.int .i64 8)], [(.int .i64 0)], [(.int .i64 9)]]) (fps := [([] : List Nat), ([] : List Nat), ([] : List Nat), ([] : List Nat), ([] : List Nat), ([] : List Nat), ([] : List Nat), ([] : List Nat), ([] : List Nat), ([] : List Nat)]) (xs := ([2, 3, 3, 4, 2, 1, 5, 8, 0, 9] : List Int)) b2 ⟨⟨rfl, rfl⟩, ⟨⟨rfl, rfl⟩, ⟨⟨rfl, rfl⟩, ⟨⟨rfl, rfl⟩, ⟨⟨rfl, rfl⟩, ⟨⟨rfl, rfl⟩, ⟨⟨rfl, rfl⟩, ⟨⟨rfl, rfl⟩, ⟨⟨rfl, rfl⟩, ⟨⟨rfl, rfl⟩, trivial⟩⟩⟩⟩⟩⟩⟩⟩⟩⟩ (Nat.le_of_ble_eq_true rfl) (List.nodup_cons.2 ⟨(fun h => nomatch h), List.nodup_nil⟩)
 have a1 : (RT.os 3 (RT.int .i64)).val M a9 (.slice (some ⟨a0, 0, none⟩) 10 10) [2, 3, 3, 4, 2, 1, 5, 8, 0, 9] [a0] := a1
 refine pl_val (.pointer (some ⟨vg0, 0, none⟩)) (y_move rfl) ?_
 have hO := hO.fr1
 have b6 := hO
 have b3 := Own.lend (F := (([vg0]) ++ ([]))) (R := ([a0]) ++ ([])) (Own.perm (b6) (by simp))
 obtain ⟨r6, b7, hs⟩ := bind_some hs
 refine pl_call Bd62 rfl (c_spec_l1Cur__pick (M := M) 24 (b0.1, b0.2.1, b0.2.2) (show BoxV _ vg0 53 [(.slice va0x0 vn0x0 vc0x0), (.int .i64 b0.2.1), (.int .u64 b0.2.2)] from hb0) hl0x0 b3 b3.fut b7) ?_
 rintro _ b8 ⟨rfl, a4, a5, b9⟩
 have hO := hO.perm (R := (([vg0]) ++ ([])) ++ (([a0]) ++ ([]))) (by simp)
 have hl0x0 := hl0x0.mt a4 hO same_
 have a1 := a1.ma a4 hO same_ (fun _ e => (mem_l (e)))
 have hC := hC.st a4 hO same_
 have hO := Own.join hO a4 b9
 have hO := hO.perm (R := [vg0] ++ (([a0]) ++ ([]))) (by simp)
 have a5 : BoxV b8 vg0 53 [(.slice va0x0 vn0x0 vc0x0), (.int .i64 r6.2.1), (.int .u64 r6.2.2)] := a5
 refine pl_val (.int .i64 (w64 (Int.tdiv r6.1 11))) (y_quo rfl rfl (by decide)) ?_
 refine pl_val (.int .i64 (w64 (8 + (w64 (Int.tdiv r6.1 11))))) (y_add rfl rfl) ?_
 obtain ⟨y8, c0, hs⟩ := bind_some hs
 obtain ⟨c1, c2, c3, a6, c9, c4, d0⟩ := rs_part Try.underlying25 Sz3 (((Frz.os Frz.int)).val a1 (M' := (Less M ([a0]))) Less.sub Less.not) c0
 refine pl_val (.slice c1 c2 c3) (y_slice rfl rfl rfl (c4 rfl _)) ?_
 have hO := hO.fr1
 have hO := hO.fr1
 have a7 := hO
 have a7 := a7.fr1
 have b4 := Own.lend (F := (([vg0]) ++ ([]))) (R := []) (Own.perm (a7.less) (by simp))
 obtain ⟨r11, c5, hs⟩ := bind_some hs
 refine pl_call Bd61 rfl (c_spec_l1Cur__among (M := (Less M ([a0]))) y8 (b0.1, r6.2.1, r6.2.2) a6 (show BoxV _ vg0 53 [(.slice va0x0 vn0x0 vc0x0), (.int .i64 r6.2.1), (.int .u64 r6.2.2)] from a5) (hl0x0.sub Less.sub) b4 b4.fut c5) ?_
 rintro _ c6 ⟨rfl, a2, a8, c7⟩
 have hO := hO.fr1
 have hO := hO.fr1
 have hO := hO.perm (R := (([vg0]) ++ ([])) ++ (([a0]) ++ ([]))) (by simp)
 have hl0x0 := hl0x0.mt a2 hO same_
 have a1 := a1.ma a2 hO same_ (fun _ e => (mem_l (e)))
 have a6 := a6.mut a2 (fun g hg => ⟨hO.inM g ((fun _ h => h) g hg), fun e => hO.apart g ((fun _ h => h) g hg) (mem_l (e))⟩) (fun _ _ h => nomatch h)
 have hC := hC.st a2 hO same_
 have hO := Own.join hO a2 c7
 have hO := hO.perm (R := [vg0] ++ (([a0]) ++ ([]))) (by simp)
 have a8 : BoxV c6 vg0 53 [(.slice va0x0 vn0x0 vc0x0), (.int .i64 r11.2.1), (.int .u64 r11.2.2)] := a8
 refine pl_val (.int .i64 r11.1) (y_assign rfl) ?_
 refine c_nil ?_
 refine wp_ret ?_
 cases hs
 have hO := hO.fr1
 have hO := hO.drop
 exact ⟨_, fr_ovl 11 ⟨rfl, trivial⟩, hC, a8, hO.top⟩

theorem Bd31 : Bodied Try.prog 31 := bodied Try.func31 (by kernel_rfl) rfl

def k_spec_DrawDiscriminatorOp (M : Nat → Prop) (w0 : World) (r : Int) (a : Act) (w : World) : Prop :=
  ∃ (σ : Nat → Value) , a = fr 9 (ovl σ [(2, (.int .i64 r))]) ∧ Chg [] w0 w
def s_spec_DrawDiscriminatorOp (code : List Int) : Option (Int) :=
  (s_spec_l1Cur__size13 (code, 0, 0)).bind fun r4 =>
  some r4.1
set_option maxHeartbeats 4000000 in
theorem c_spec_DrawDiscriminatorOp {M : Nat → Prop} {w : World} {pa0 : Option Addr} {pn0 pc0 : Nat} (code : List Int) (h0 : (RT.rs (RT.int .u8)).val M w (.slice pa0 pn0 pc0) code ([])) (hM : ∀ g, w.heap.size ≤ g → M g) {r : Int} (hs : s_spec_DrawDiscriminatorOp code = some r) :
    Gives Try.prog 6 [(.slice pa0 pn0 pc0)] w (fun v w' => v = (.int .i64 r) ∧ Chg [] w w') := by
 refine calls_fr Try.func6 rfl Try.ntmps6 (Nat.le_of_ble_eq_true rfl) ?_
 have hO := Own.start (N := Nw w []) hM Nw.fut
 have hC := Chg.refl [] w
 unfold s_spec_DrawDiscriminatorOp at hs
 refine wp_mono (Q := KPost (k_spec_DrawDiscriminatorOp M w r)) ?_ (fun e a b3 h => ?_)
 rotate_left
 ·cases e
  case ret =>
   obtain ⟨σ, rfl, hrest⟩ := h
   exact ret1x Try.results6 (res_tmp rfl) ⟨rfl, hrest⟩
  all_goals exact (h : False).elim
 refine c_sr ?_
 refine pl_val (.int .i64 0) (y_assign rfl) ?_
 refine c_nil ?_
 refine c_sr ?_
 refine pl_val (.slice pa0 pn0 pc0) (y_move rfl) ?_
 refine pl_val (.agg #[(.slice pa0 pn0 pc0), (.int .i64 0), (.int .u64 0)]) (y_build rfl (by kernel_rfl)) ?_
 obtain ⟨a7, a0, a8, a3, a1, a4⟩ := new_block w [(.slice pa0 pn0 pc0), (.int .i64 0), (.int .u64 0)] 53
 refine pl_val (w' := a7) (.pointer (some ⟨a0, 0, none⟩)) (y_box rfl (by rw [a8, a3]; kernel_rfl)) ?_
 have h0 := h0.ext a1
 have hC := hC.ext a1
 have hO := hO.new1 a1 a3 a4.lt
 refine pl_val (.pointer (some ⟨a0, 0, none⟩)) (y_assign rfl) ?_
 refine c_nil ?_
 refine c_sr ?_
 refine pl_val (.pointer (some ⟨a0, 0, none⟩)) (y_move rfl) ?_
 have a9 := hO
 have a5 := Own.lend (F := (([a0]) ++ ([]))) (R := []) (Own.perm (a9) (by simp))
 obtain ⟨r4, b0, hs⟩ := bind_some hs
 refine pl_call Bd31 rfl (c_spec_l1Cur__size13 (M := M) (code, 0, 0) (show BoxV _ a0 53 [(.slice pa0 pn0 pc0), (.int .i64 0), (.int .u64 0)] from a4) h0 a5 a5.fut b0) ?_
 rintro _ b1 ⟨rfl, a2, a6, b2⟩
 have hO := hO.perm (R := (([a0]) ++ ([])) ++ ([])) (by simp)
 have h0 := h0.mt a2 hO same_
 have hC := hC.st a2 hO same_
 have hO := Own.join hO a2 b2
 have hO := hO.perm (R := [a0] ++ ([])) (by simp)
 have a6 : BoxV b1 a0 53 [(.slice pa0 pn0 pc0), (.int .i64 r4.2.1), (.int .u64 r4.2.2)] := a6
 refine pl_val (.int .i64 r4.1) (y_assign rfl) ?_
 refine c_nil ?_
 refine wp_ret ?_
 cases hs
 exact ⟨_, fr_ovl 9 ⟨rfl, trivial⟩, hC⟩

def k_impl_isSize (M : Nat → Prop) (w0 : World) (r : Bool) (a : Act) (w : World) : Prop :=
  ∃ (σ : Nat → Value) , a = fr 9 (ovl σ [(2, (.bool r))]) ∧ Chg [] w0 w
def s_impl_isSize (n : Int) : Option (Bool) :=
  (bif (decide (1 ≤ n)) then some (decide (n ≤ 8)) else some false)
set_option maxHeartbeats 4000000 in
theorem c_impl_isSize {M : Nat → Prop} {w : World}  (n : Int)  (hM : ∀ g, w.heap.size ≤ g → M g) {r : Bool} (hs : s_impl_isSize n = some r) :
    Gives Try.prog 32 [(.int .i64 n)] w (fun v w' => v = (.bool r) ∧ Chg [] w w') := by
 refine calls_fr Try.func32 rfl Try.ntmps32 (Nat.le_of_ble_eq_true rfl) ?_
 have hO := Own.start (N := Nw w []) hM Nw.fut
 have hC := Chg.refl [] w
 unfold s_impl_isSize at hs
 refine wp_mono (Q := KPost (k_impl_isSize M w r)) ?_ (fun e a a1 h => ?_)
 rotate_left
 ·cases e
  case ret =>
   obtain ⟨σ, rfl, hrest⟩ := h
   exact ret1x Try.results32 (res_tmp rfl) ⟨rfl, hrest⟩
  all_goals exact (h : False).elim
 refine c_sr ?_
 refine pl_val (.bool false) (y_assign rfl) ?_
 refine c_nil ?_
 refine c_sr ?_
 refine pl_val (.int .i64 n) (y_move rfl) ?_
 refine pl_val (.bool (decide (1 ≤ n))) (y_geq rfl rfl) ?_
 refine pl_val (.bool (decide (1 ≤ n))) (y_move rfl) ?_
 rcases bif_some hs with ⟨a0, hs⟩ | ⟨a0, hs⟩
 ·skip
  refine pl_yes (.int .i64 n) (tg := 5) (by kernel_rfl) (congrArg Value.bool a0) (y_move rfl) ?_
  refine pl_yes (.bool (decide (n ≤ 8))) (tg := 5) (by kernel_rfl) (congrArg Value.bool a0) (y_leq rfl rfl) ?_
  refine pl_val (.bool (decide (n ≤ 8))) (y_pick_t (congrArg Value.bool a0) rfl) ?_
  refine pl_val (.bool (decide (n ≤ 8))) (y_assign rfl) ?_
  refine c_nil ?_
  refine wp_ret ?_
  cases hs
  exact ⟨_, fr_ovl 9 ⟨rfl, trivial⟩, hC⟩
 refine pl_not (tg := 5) (by kernel_rfl) (congrArg Value.bool a0) ?_
 refine pl_not (tg := 5) (by kernel_rfl) (congrArg Value.bool a0) ?_
 refine pl_val (.bool false) (y_pick_f (congrArg Value.bool a0) rfl) ?_
 refine pl_val (.bool false) (y_assign rfl) ?_
 refine c_nil ?_
 refine wp_ret ?_
 cases hs
 exact ⟨_, fr_ovl 9 ⟨rfl, trivial⟩, hC⟩

def k_impl_discriminator_1 (M : Nat → Prop) (w0 : World) (r : Int) (a : Act) (w : World) : Prop :=
  ∃ (σ : Nat → Value) , a = fr 12 (ovl σ [(6, (.int .i64 r))]) ∧ Chg [] w0 w
def s_impl_discriminator_1 (x_ : Int) (y : Int) (z : Int) : Option (Int) :=
  (bif (x_ == y) then some z else some x_)
set_option maxHeartbeats 4000000 in
theorem c_impl_discriminator_1 {M : Nat → Prop} {w : World}  (x_ : Int) (y : Int) (z : Int)  (hM : ∀ g, w.heap.size ≤ g → M g) {r : Int} (hs : s_impl_discriminator_1 x_ y z = some r) :
    Gives Try.prog 63 [(.int .i64 x_), (.int .i64 y), (.int .i64 z)] w (fun v w' => v = (.int .i64 r) ∧ Chg [] w w') := by
 refine calls_fr Try.func63 rfl Try.ntmps63 (Nat.le_of_ble_eq_true rfl) ?_
 have hO := Own.start (N := Nw w []) hM Nw.fut
 have hC := Chg.refl [] w
 unfold s_impl_discriminator_1 at hs
 refine wp_mono (Q := KPost (k_impl_discriminator_1 M w r)) ?_ (fun e a a1 h => ?_)
 rotate_left
 ·cases e
  case ret =>
   obtain ⟨σ, rfl, hrest⟩ := h
   exact ret1x Try.results63 (res_tmp rfl) ⟨rfl, hrest⟩
  all_goals exact (h : False).elim
 refine c_sr ?_
 refine pl_val (.int .i64 0) (y_assign rfl) ?_
 refine c_nil ?_
 refine c_seq ?_
 refine c_sr ?_
 refine pl_val (.int .i64 x_) (y_move rfl) ?_
 refine pl_val (.int .i64 y) (y_move rfl) ?_
 refine pl_val (.bool (x_ == y)) (y_eql rfl rfl) ?_
 refine c_nil ?_
 rcases bif_some hs with ⟨a0, hs⟩ | ⟨a0, hs⟩
 ·refine c_condT (congrArg Value.bool a0) ?_
  refine c_sr ?_
  refine pl_val (.int .i64 z) (y_move rfl) ?_
  refine pl_val (.int .i64 z) (y_assign rfl) ?_
  refine c_nil ?_
  refine wp_ret ?_
  cases hs
  exact ⟨_, fr_ovl 12 ⟨rfl, trivial⟩, hC⟩
 refine c_condF (congrArg Value.bool a0) ?_
 refine wp_skip ?_
 refine c_sr ?_
 refine pl_val (.int .i64 x_) (y_move rfl) ?_
 refine pl_val (.int .i64 x_) (y_assign rfl) ?_
 refine c_nil ?_
 refine wp_ret ?_
 cases hs
 exact ⟨_, fr_ovl 12 ⟨rfl, trivial⟩, hC⟩

theorem Ag27 : AggT Try.prog 27 true := fun _ => by kernel_rfl

theorem Sz27 : SzT Try.prog 27 2 := ⟨_, rfl, rfl⟩

theorem Fa27x1 : ∀ (a : Addr) (w : World), (Instr.fieldAt 27 (.pointer (some a)) 1).run Try.prog w = .ok (.pointer (some (a.add 1))) w := fun _ _ => by kernel_rfl

theorem Ag25 : AggT Try.prog 25 false := fun _ => by kernel_rfl

theorem Sz25 : SzT Try.prog 25 1 := ⟨_, rfl, rfl⟩

theorem Bd63 : Bodied Try.prog 63 := bodied Try.func63 (by kernel_rfl) rfl

theorem Rw25 : RowT Try.prog 25 3 1 [(.int .i64 0)] := ⟨Try.underlying25, ⟨_, _, rfl, rfl, rfl, rfl, by decide⟩, rfl, by decide⟩

def k_impl_ternary__impl_discriminator_1 (M : Nat → Prop) (w0 : World) (r : (Int × (List Int))) (a : Act) (w : World) : Prop :=
  ∃ (σ : Nat → Value) (rg4 : Nat) (ra0 : Option Addr) (rn0 rc0 : Nat) (rf0 : List Nat), a = fr 38 (ovl σ [(4, (.pointer (some ⟨rg4, 0, none⟩)))]) ∧ BoxV w rg4 27 [(.int .i64 r.1), (.slice ra0 rn0 rc0)] ∧ Chg [] w0 w ∧ (RT.os 3 (RT.int .i64)).val M w (.slice ra0 rn0 rc0) r.2 rf0 ∧ Own (Nw w0 []) (fun _ => True) w (rf0 ++ ([]))
def s_impl_ternary__impl_discriminator_1 (n : Int) : Option ((Int × (List Int))) :=
  (forC (S := (List Int)) (R := (Int × (List Int))) (fun k71 s69 =>
  (nz n).bind fun u80 =>
  (nz n).bind fun u81 =>
  (nz n).bind fun u82 =>
  (nz n).bind fun u83 =>
  (nz n).bind fun u84 =>
  (s_impl_discriminator_1 (w64 (Int.tdiv (w64 (Int.tdiv k71 n)) n)) (Int.tmod (w64 (Int.tdiv k71 n)) n) (Int.tmod k71 n)).bind fun r86 =>
  (app s69 ([r86])).bind fun y90 =>
  some (.nx y90)) 0 (w64 ((w64 (n * n)) * n)) ([])).bind fun o73 => after o73 (fun r_ => some r_) (fun s69 =>
  some (3, s69))
set_option maxHeartbeats 4000000 in
theorem c_impl_ternary__impl_discriminator_1 {M : Nat → Prop} {w : World}  (n : Int)  (hM : ∀ g, w.heap.size ≤ g → M g) {r : (Int × (List Int))} (hs : s_impl_ternary__impl_discriminator_1 n = some r) :
    Gives Try.prog 36 [(.int .i64 n), (.func (.func 63) #[] #[])] w (fun v w' => ∃ (ra0 : Option Addr) (rn0 rc0 : Nat) (rf0 : List Nat), v = (.agg #[(.int .i64 r.1), (.slice ra0 rn0 rc0)]) ∧ Chg [] w w' ∧ (RT.os 3 (RT.int .i64)).val M w' (.slice ra0 rn0 rc0) r.2 rf0 ∧ Own (Nw w []) (fun _ => True) w' (rf0 ++ ([]))) := by
 refine calls_fr Try.func36 rfl Try.ntmps36 (Nat.le_of_ble_eq_true rfl) ?_
 have hO := Own.start (N := Nw w []) hM Nw.fut
 have hC := Chg.refl [] w
 unfold s_impl_ternary__impl_discriminator_1 at hs
 refine wp_mono (Q := KPost (k_impl_ternary__impl_discriminator_1 M w r)) ?_ (fun e a c3 h => ?_)
 rotate_left
 ·cases e
  case ret =>
   obtain ⟨σ, rg4, ra0, rn0, rc0, rf0, rfl, hbrg4, hrest⟩ := h
   exact ret1x Try.results36 (res_cell rfl (box_load Ag27 Sz27 hbrg4 [] _ [] rfl rfl (fun h => nomatch h))) ⟨ra0, rn0, rc0, rf0, rfl, hrest⟩
  all_goals exact (h : False).elim
 refine c_sr ?_
 obtain ⟨c3, a8, h7, f8, f9, a0⟩ := new_block w [(.int .i64 0), (.slice none 0 0)] 27
 refine pl_val (w' := c3) (.pointer (some ⟨a8, 0, none⟩)) (y_alloc (by rw [h7, f8]; kernel_rfl)) ?_
 have hC := hC.ext f9
 have hO := hO.new1 f9 f8 a0.lt
 refine c_nil ?_
 refine c_sr ?_
 refine pl_val (.agg #[(.int .i64 3), (.slice none 0 0)]) (y_build rfl (by kernel_rfl)) ?_
 obtain ⟨h8, a4, h9, g0, e1, g1⟩ := new_block c3 [(.int .i64 0), (.slice none 0 0)] 27
 refine pl_val (w' := h8) (.pointer (some ⟨a4, 0, none⟩)) (y_alloc (by rw [h9, g0]; kernel_rfl)) ?_
 have a0 := a0.cn e1
 have hC := hC.ext e1
 have hO := hO.new1 e1 g0 g1.lt
 obtain ⟨g2, i0, e2, a1⟩ := box_store (P := Try.prog) g1 [] [(.int .i64 0), (.slice none 0 0)] [] [(.int .i64 3), (.slice none 0 0)] rfl rfl (by intro u hu; simp only [List.mem_cons, List.not_mem_nil, or_false] at hu; rcases hu with rfl | rfl <;> rfl)
 refine pl_skip (w' := g2) (ys_store rfl rfl (i0 _ _ rfl Sz27)) ?_
 have a0 := a0.ap e2 hO same_ (mem_l (List.mem_singleton.2 rfl))
 have hC := hC.st e2 hO same_
 have hO := hO.ext e2
 have a1 : BoxV g2 a4 27 [(.int .i64 3), (.slice none 0 0)] := a1
 refine c_nil ?_
 refine c_seq ?_
 refine c_sr ?_
 refine pl_val (.int .i64 0) (y_assign rfl) ?_
 refine c_nil ?_
 obtain ⟨o73, i1, hs⟩ := bind_some hs
 refine wp_block ?_
 refine wp_forC (id := 0) (w64 ((w64 (n * n)) * n)) (I := fun k71 s69 a a3 => ∃ (σ : Nat → Value) (a5 : Option Addr) (a6 : Nat) (a7 : Nat) (b3 : List Nat), a = fr 38 (ovl σ [(0, (.int .i64 n)), (1, (.func (.func 63) #[] #[])), (4, (.pointer (some ⟨a8, 0, none⟩))), (5, (.pointer (some ⟨a4, 0, none⟩))), (6, (.int .i64 k71))]) ∧ Chg [] w a3 ∧ Own (Nw w []) M a3 (b3 ++ (([a4]) ++ (([a8]) ++ []))) ∧ BoxV a3 a8 27 [(.int .i64 0), (.slice none 0 0)] ∧ BoxV a3 a4 27 [(.int .i64 3), (.slice a5 a6 a7)] ∧ (RT.os 3 (RT.int .i64)).val M a3 (.slice a5 a6 a7) s69 b3) (J := fun s69 a a3 => ∃ (σ : Nat → Value) (a9 : Option Addr) (b0 : Nat) (b1 : Nat) (c4 : List Nat), a = fr 38 (ovl σ [(4, (.pointer (some ⟨a8, 0, none⟩))), (5, (.pointer (some ⟨a4, 0, none⟩)))]) ∧ Chg [] w a3 ∧ Own (Nw w []) M a3 (c4 ++ (([a4]) ++ (([a8]) ++ []))) ∧ BoxV a3 a8 27 [(.int .i64 0), (.slice none 0 0)] ∧ BoxV a3 a4 27 [(.int .i64 3), (.slice a9 b0 b1)] ∧ (RT.os 3 (RT.int .i64)).val M a3 (.slice a9 b0 b1) s69 c4) (K := (k_impl_ternary__impl_discriminator_1 M w)) ?_ ?_ 0 ([]) o73 _ _ ?_ i1 ?_
 ·rintro k71 s69 a a3 ⟨σ, a5, a6, a7, b3, rfl, hC, hO, a0, a1, a2⟩ hlt
  refine c_seq ?_
  refine c_sr ?_
  refine pl_val (.int .i64 k71) (y_move rfl) ?_
  refine pl_val (.int .i64 n) (y_move rfl) ?_
  refine pl_val (.int .i64 n) (y_move rfl) ?_
  refine pl_val (.int .i64 (w64 (n * n))) (y_mul rfl rfl) ?_
  refine pl_val (.int .i64 n) (y_move rfl) ?_
  refine pl_val (.int .i64 (w64 ((w64 (n * n)) * n))) (y_mul rfl rfl) ?_
  refine pl_val (.bool (decide (k71 < (w64 ((w64 (n * n)) * n))))) (y_lss rfl rfl) ?_
  refine c_nil ?_
  refine c_condF (congrArg Value.bool (decide_eq_false hlt)) ?_
  refine wp_exit ?_
  have hO := hO.fr2
  have hO := hO.fr2
  have hO := hO.fr2
  exact ⟨rfl, _, a5, a6, a7, b3, fr_ovl 38 ⟨rfl, rfl, trivial⟩, hC, hO, a0, a1, a2⟩
 ·rintro k71 s69 o73 a a3 ⟨σ, a5, a6, a7, b3, rfl, hC, hO, a0, a1, a2⟩ hlt hw hs
  refine c_seq ?_
  refine c_sr ?_
  refine pl_val (.int .i64 k71) (y_move rfl) ?_
  refine pl_val (.int .i64 n) (y_move rfl) ?_
  refine pl_val (.int .i64 n) (y_move rfl) ?_
  refine pl_val (.int .i64 (w64 (n * n))) (y_mul rfl rfl) ?_
  refine pl_val (.int .i64 n) (y_move rfl) ?_
  refine pl_val (.int .i64 (w64 ((w64 (n * n)) * n))) (y_mul rfl rfl) ?_
  refine pl_val (.bool (decide (k71 < (w64 ((w64 (n * n)) * n))))) (y_lss rfl rfl) ?_
  refine c_nil ?_
  refine c_condT (congrArg Value.bool (decide_eq_true hlt)) ?_
  refine wp_skip ?_
  refine c_seq ?_
  refine wp_block ?_
  refine x_start [16, 18, 20] Mx rfl ?_
  have b2 := Chg.drew a3
  generalize World.drew a3 = i2 at b2 ⊢
  have a0 := a0.cn b2
  have a1 := a1.cn b2
  have a2 := a2.ext b2
  have hC := hC.ext b2
  have hO := hO.ext b2
  have hS := Chg.refl [] i2
  refine x_p 0 (.pointer (some ⟨a4, 1, none⟩)) rfl (by kernel_rfl)  (fun _ => y_faddr rfl Fa27x1) (fun _ => hS) ?_
  refine x_p 2 (.func (.func 63) #[] #[]) rfl (by kernel_rfl)  (fun _ => y_move rfl) (fun _ => hS) ?_
  refine x_p 3 (.int .i64 k71) rfl (by kernel_rfl)  (fun _ => y_move rfl) (fun _ => hS) ?_
  refine x_p 4 (.int .i64 n) rfl (by kernel_rfl)  (fun _ => y_move rfl) (fun _ => hS) ?_
  obtain ⟨u80, i3, hs⟩ := bind_some hs
  refine x_p 5 (.int .i64 (w64 (Int.tdiv k71 n))) rfl (by kernel_rfl)  (fun _ => y_quo rfl rfl (nz_ne i3)) (fun _ => hS) ?_
  refine x_p 6 (.int .i64 n) rfl (by kernel_rfl)  (fun _ => y_move rfl) (fun _ => hS) ?_
  obtain ⟨u81, i4, hs⟩ := bind_some hs
  refine x_p 7 (.int .i64 (w64 (Int.tdiv (w64 (Int.tdiv k71 n)) n))) rfl (by kernel_rfl)  (fun _ => y_quo rfl rfl (nz_ne i4)) (fun _ => hS) ?_
  refine x_p 8 (.int .i64 k71) rfl (by kernel_rfl)  (fun _ => y_move rfl) (fun _ => hS) ?_
  refine x_p 9 (.int .i64 n) rfl (by kernel_rfl)  (fun _ => y_move rfl) (fun _ => hS) ?_
  obtain ⟨u82, i5, hs⟩ := bind_some hs
  refine x_p 10 (.int .i64 (w64 (Int.tdiv k71 n))) rfl (by kernel_rfl)  (fun _ => y_quo rfl rfl (nz_ne i5)) (fun _ => hS) ?_
  refine x_p 11 (.int .i64 n) rfl (by kernel_rfl)  (fun _ => y_move rfl) (fun _ => hS) ?_
  obtain ⟨u83, i6, hs⟩ := bind_some hs
  refine x_p 12 (.int .i64 (Int.tmod (w64 (Int.tdiv k71 n)) n)) rfl (by kernel_rfl)  (fun _ => y_rem rfl rfl (nz_ne i6)) (fun _ => hS) ?_
  refine x_p 13 (.int .i64 k71) rfl (by kernel_rfl)  (fun _ => y_move rfl) (fun _ => hS) ?_
  refine x_p 14 (.int .i64 n) rfl (by kernel_rfl)  (fun _ => y_move rfl) (fun _ => hS) ?_
  obtain ⟨u84, i7, hs⟩ := bind_some hs
  refine x_p 15 (.int .i64 (Int.tmod k71 n)) rfl (by kernel_rfl)  (fun _ => y_rem rfl rfl (nz_ne i7)) (fun _ => hS) ?_
  refine x_two (i := 1) (j := 16) (by kernel_rfl) ?_ ?_
  ·skip
   refine xk_val (b := false) (.slice a5 a6 a7) rfl  (y_load rfl ((box_load Ag25 Sz25 a1 [(.int .i64 3)] [(.slice a5 a6 a7)] [] rfl rfl (fun _ => rfl)) _ (Chg.refl _ _))) rfl (fun _ => hS) ?_
   refine x_one (i := 16) (by kernel_rfl) ?_
   obtain ⟨r86, e3, hs⟩ := bind_some hs
   refine xk_callv (b := true) rfl  (h := rfl) Bd63 rfl (c_impl_discriminator_1 (M := M) (w64 (Int.tdiv (w64 (Int.tdiv k71 n)) n)) (Int.tmod (w64 (Int.tdiv k71 n)) n) (Int.tmod k71 n)  hO.fut e3) rfl (fun h => nomatch h) ?_
   rintro _ i9 ⟨rfl, b4⟩
   have a0 := a0.cn b4
   have a1 := a1.cn b4
   have a2 := a2.ext b4
   have hC := hC.ext b4
   have hO := hO.ext b4
   refine x_one (i := 17) (by kernel_rfl) ?_
   obtain ⟨g3, e4, j0, g4, b5, g5⟩ := new_block i9 [(.int .i64 r86)] 3
   refine xk_val (w' := g3) (b := true) (.slice (some ⟨e4, 0, none⟩) 1 1) rfl  (y_bslice rfl (by rw [j0, g4]; kernel_rfl)) rfl (fun h => nomatch h) ?_
   have a0 := a0.cn b5
   have a1 := a1.cn b5
   have a2 := a2.ext b5
   have hC := hC.ext b5
   have hO := hO.new1 b5 g4 g5.lt
   have e5 := os_of_box (r := (RT.int .i64)) (M := M) (css := [[(.int .i64 r86)]]) (fps := [([] : List Nat)]) (xs := ([r86] : List Int)) g5 ⟨⟨rfl, rfl⟩, trivial⟩ (Nat.le_of_ble_eq_true rfl) (List.nodup_cons.2 ⟨(fun h => nomatch h), List.nodup_nil⟩)
   have e5 : (RT.os 3 (RT.int .i64)).val M g3 (.slice (some ⟨e4, 0, none⟩) 1 1) [r86] [e4] := e5
   refine x_one (i := 18) (by kernel_rfl) ?_
   obtain ⟨y90, b6, hs⟩ := bind_some hs
   have hO := hO.fr1
   obtain ⟨c5, c6, c7, j1, j2, j3, c8, j4, b7⟩ := app_os Rw25 b6 a2 e5 hO.inM (fun g hg hq => hO.apart g hq (mem_l hg))
   have e6 := os_block a2
   refine xk_val (w' := j1) (b := true) (.slice c5 c6 c7) rfl  (y_append rfl rfl (j3 _)) rfl (fun h => nomatch h) ?_
   have hO := hO.fr1
   have hO := hO.fr1
   have a0 := a0.ap c8 hO e6 (mem_r (mem_r (mem_l (List.mem_singleton.2 rfl))))
   have a1 := a1.ap c8 hO e6 (mem_r (mem_l (List.mem_singleton.2 rfl)))
   have hC := hC.st c8 hO e6
   have hO := hO.eat c8 j4 (os_nodup b7) b7.fpl
   refine x_p 19 (.pointer (some ⟨a4, 1, none⟩)) rfl (by kernel_rfl)  (fun _ => y_faddr rfl Fa27x1) (fun h => nomatch h) ?_
   refine x_one (i := 20) (by kernel_rfl) ?_
   obtain ⟨g6, j5, c9, e7⟩ := box_store (P := Try.prog) a1 [(.int .i64 3)] [(.slice a5 a6 a7)] [] [(.slice c5 c6 c7)] rfl rfl (by intro u hu; simp only [List.mem_cons, List.not_mem_nil, or_false] at hu; rcases hu with rfl <;> rfl)
   refine xk_skip (w' := g6) (b := true) rfl (ys_store rfl rfl (j5 _ _ rfl Sz25)) rfl (fun h => nomatch h) ?_
   have hO := hO.fr1
   have a0 := a0.ap c9 hO same_ (mem_r (mem_l (List.mem_singleton.2 rfl)))
   have b7 := b7.ma c9 hO same_ (fun _ e => (mem_l (e)))
   have hC := hC.st c9 hO same_
   have hO := hO.ext c9
   have e7 : BoxV g6 a4 27 [(.int .i64 3), (.slice c5 c6 c7)] := e7
   refine x_end (by kernel_rfl) ?_
   clear hS
   refine c_region ?_
   refine pl_val (.int .i64 k71) (y_move rfl) ?_
   refine pl_val (.int .i64 (w64 (k71 + 1))) (y_add rfl rfl) ?_
   refine pl_val (.int .i64 (w64 (k71 + 1))) (y_assign rfl) ?_
   refine c_nil ?_
   cases hs
   have hO := hO.fr2
   have hO := hO.fr1
   have hO := hO.fr2
   exact ⟨_, c5, c6, c7, j2, fr_ovl 38 ⟨rfl, rfl, rfl, rfl, congrArg (Value.int .i64) hw, trivial⟩, hC, hO, a0, e7, b7⟩
  ·skip
   obtain ⟨r86, e3, hs⟩ := bind_some hs
   refine xk_callv (b := true) rfl  (h := rfl) Bd63 rfl (c_impl_discriminator_1 (M := M) (w64 (Int.tdiv (w64 (Int.tdiv k71 n)) n)) (Int.tmod (w64 (Int.tdiv k71 n)) n) (Int.tmod k71 n)  hO.fut e3) rfl (fun h => nomatch h) ?_
   rintro _ g7 ⟨rfl, b8⟩
   have a0 := a0.cn b8
   have a1 := a1.cn b8
   have a2 := a2.ext b8
   have hC := hC.ext b8
   have hO := hO.ext b8
   refine x_two (i := 1) (j := 17) (by kernel_rfl) ?_ ?_
   ·skip
    refine xk_val (b := true) (.slice a5 a6 a7) rfl  (y_load rfl ((box_load Ag25 Sz25 a1 [(.int .i64 3)] [(.slice a5 a6 a7)] [] rfl rfl (fun _ => rfl)) _ (Chg.refl _ _))) rfl (fun h => nomatch h) ?_
    refine x_one (i := 17) (by kernel_rfl) ?_
    obtain ⟨g8, e8, j6, g9, b9, h0⟩ := new_block g7 [(.int .i64 r86)] 3
    refine xk_val (w' := g8) (b := true) (.slice (some ⟨e8, 0, none⟩) 1 1) rfl  (y_bslice rfl (by rw [j6, g9]; kernel_rfl)) rfl (fun h => nomatch h) ?_
    have a0 := a0.cn b9
    have a1 := a1.cn b9
    have a2 := a2.ext b9
    have hC := hC.ext b9
    have hO := hO.new1 b9 g9 h0.lt
    have e9 := os_of_box (r := (RT.int .i64)) (M := M) (css := [[(.int .i64 r86)]]) (fps := [([] : List Nat)]) (xs := ([r86] : List Int)) h0 ⟨⟨rfl, rfl⟩, trivial⟩ (Nat.le_of_ble_eq_true rfl) (List.nodup_cons.2 ⟨(fun h => nomatch h), List.nodup_nil⟩)
    have e9 : (RT.os 3 (RT.int .i64)).val M g8 (.slice (some ⟨e8, 0, none⟩) 1 1) [r86] [e8] := e9
    refine x_one (i := 18) (by kernel_rfl) ?_
    obtain ⟨y90, b6, hs⟩ := bind_some hs
    have hO := hO.fr1
    obtain ⟨d0, d1, d2, j7, j8, j9, d3, k0, c0⟩ := app_os Rw25 b6 a2 e9 hO.inM (fun g hg hq => hO.apart g hq (mem_l hg))
    have f0 := os_block a2
    refine xk_val (w' := j7) (b := true) (.slice d0 d1 d2) rfl  (y_append rfl rfl (j9 _)) rfl (fun h => nomatch h) ?_
    have hO := hO.fr1
    have hO := hO.fr1
    have a0 := a0.ap d3 hO f0 (mem_r (mem_r (mem_l (List.mem_singleton.2 rfl))))
    have a1 := a1.ap d3 hO f0 (mem_r (mem_l (List.mem_singleton.2 rfl)))
    have hC := hC.st d3 hO f0
    have hO := hO.eat d3 k0 (os_nodup c0) c0.fpl
    refine x_p 19 (.pointer (some ⟨a4, 1, none⟩)) rfl (by kernel_rfl)  (fun _ => y_faddr rfl Fa27x1) (fun h => nomatch h) ?_
    refine x_one (i := 20) (by kernel_rfl) ?_
    obtain ⟨h1, k1, d4, f1⟩ := box_store (P := Try.prog) a1 [(.int .i64 3)] [(.slice a5 a6 a7)] [] [(.slice d0 d1 d2)] rfl rfl (by intro u hu; simp only [List.mem_cons, List.not_mem_nil, or_false] at hu; rcases hu with rfl <;> rfl)
    refine xk_skip (w' := h1) (b := true) rfl (ys_store rfl rfl (k1 _ _ rfl Sz25)) rfl (fun h => nomatch h) ?_
    have hO := hO.fr1
    have a0 := a0.ap d4 hO same_ (mem_r (mem_l (List.mem_singleton.2 rfl)))
    have c0 := c0.ma d4 hO same_ (fun _ e => (mem_l (e)))
    have hC := hC.st d4 hO same_
    have hO := hO.ext d4
    have f1 : BoxV h1 a4 27 [(.int .i64 3), (.slice d0 d1 d2)] := f1
    refine x_end (by kernel_rfl) ?_
    clear hS
    refine c_region ?_
    refine pl_val (.int .i64 k71) (y_move rfl) ?_
    refine pl_val (.int .i64 (w64 (k71 + 1))) (y_add rfl rfl) ?_
    refine pl_val (.int .i64 (w64 (k71 + 1))) (y_assign rfl) ?_
    refine c_nil ?_
    cases hs
    have hO := hO.fr2
    have hO := hO.fr1
    have hO := hO.fr2
    exact ⟨_, d0, d1, d2, j8, fr_ovl 38 ⟨rfl, rfl, rfl, rfl, congrArg (Value.int .i64) hw, trivial⟩, hC, hO, a0, f1, c0⟩
   ·skip
    obtain ⟨h2, f2, k2, h3, c1, h4⟩ := new_block g7 [(.int .i64 r86)] 3
    refine xk_val (w' := h2) (b := true) (.slice (some ⟨f2, 0, none⟩) 1 1) rfl  (y_bslice rfl (by rw [k2, h3]; kernel_rfl)) rfl (fun h => nomatch h) ?_
    have a0 := a0.cn c1
    have a1 := a1.cn c1
    have a2 := a2.ext c1
    have hC := hC.ext c1
    have hO := hO.new1 c1 h3 h4.lt
    have f3 := os_of_box (r := (RT.int .i64)) (M := M) (css := [[(.int .i64 r86)]]) (fps := [([] : List Nat)]) (xs := ([r86] : List Int)) h4 ⟨⟨rfl, rfl⟩, trivial⟩ (Nat.le_of_ble_eq_true rfl) (List.nodup_cons.2 ⟨(fun h => nomatch h), List.nodup_nil⟩)
    have f3 : (RT.os 3 (RT.int .i64)).val M h2 (.slice (some ⟨f2, 0, none⟩) 1 1) [r86] [f2] := f3
    refine x_one (i := 1) (by kernel_rfl) ?_
    refine xk_val (b := true) (.slice a5 a6 a7) rfl  (y_load rfl ((box_load Ag25 Sz25 a1 [(.int .i64 3)] [(.slice a5 a6 a7)] [] rfl rfl (fun _ => rfl)) _ (Chg.refl _ _))) rfl (fun h => nomatch h) ?_
    refine x_one (i := 18) (by kernel_rfl) ?_
    obtain ⟨y90, b6, hs⟩ := bind_some hs
    have hO := hO.fr1
    obtain ⟨d5, d6, d7, k3, k4, k5, d8, k6, c2⟩ := app_os Rw25 b6 a2 f3 hO.inM (fun g hg hq => hO.apart g hq (mem_l hg))
    have f4 := os_block a2
    refine xk_val (w' := k3) (b := true) (.slice d5 d6 d7) rfl  (y_append rfl rfl (k5 _)) rfl (fun h => nomatch h) ?_
    have hO := hO.fr1
    have hO := hO.fr1
    have a0 := a0.ap d8 hO f4 (mem_r (mem_r (mem_l (List.mem_singleton.2 rfl))))
    have a1 := a1.ap d8 hO f4 (mem_r (mem_l (List.mem_singleton.2 rfl)))
    have hC := hC.st d8 hO f4
    have hO := hO.eat d8 k6 (os_nodup c2) c2.fpl
    refine x_p 19 (.pointer (some ⟨a4, 1, none⟩)) rfl (by kernel_rfl)  (fun _ => y_faddr rfl Fa27x1) (fun h => nomatch h) ?_
    refine x_one (i := 20) (by kernel_rfl) ?_
    obtain ⟨h5, k7, d9, f5⟩ := box_store (P := Try.prog) a1 [(.int .i64 3)] [(.slice a5 a6 a7)] [] [(.slice d5 d6 d7)] rfl rfl (by intro u hu; simp only [List.mem_cons, List.not_mem_nil, or_false] at hu; rcases hu with rfl <;> rfl)
    refine xk_skip (w' := h5) (b := true) rfl (ys_store rfl rfl (k7 _ _ rfl Sz25)) rfl (fun h => nomatch h) ?_
    have hO := hO.fr1
    have a0 := a0.ap d9 hO same_ (mem_r (mem_l (List.mem_singleton.2 rfl)))
    have c2 := c2.ma d9 hO same_ (fun _ e => (mem_l (e)))
    have hC := hC.st d9 hO same_
    have hO := hO.ext d9
    have f5 : BoxV h5 a4 27 [(.int .i64 3), (.slice d5 d6 d7)] := f5
    refine x_end (by kernel_rfl) ?_
    clear hS
    refine c_region ?_
    refine pl_val (.int .i64 k71) (y_move rfl) ?_
    refine pl_val (.int .i64 (w64 (k71 + 1))) (y_add rfl rfl) ?_
    refine pl_val (.int .i64 (w64 (k71 + 1))) (y_assign rfl) ?_
    refine c_nil ?_
    cases hs
    have hO := hO.fr2
    have hO := hO.fr1
    have hO := hO.fr2
    exact ⟨_, d5, d6, d7, k4, fr_ovl 38 ⟨rfl, rfl, rfl, rfl, congrArg (Value.int .i64) hw, trivial⟩, hC, hO, a0, f5, c2⟩
 ·skip
  have hO := hO.fr1
  have hO := hO.fr1
  have hO := hO.nil
  exact ⟨_, none, 0, 0, [], fr_ovl 38 ⟨rfl, rfl, rfl, rfl, rfl, trivial⟩, hC, hO, a0, a1, os_nil⟩
 cases o73 with
 | nx _ => exact True.intro
 | rt r_ =>
  have hs := after_rt hs
  intro k8 c3 hK
  cases hs
  exact hK
 | br s69 =>
  have hs := after_br hs
  rintro k8 a3 ⟨σ, a9, b0, b1, c4, rfl, hC, hO, a0, a1, f6⟩
  refine c_sr ?_
  refine pl_val (.agg #[(.int .i64 3), (.slice a9 b0 b1)]) (y_load rfl ((box_load Ag27 Sz27 a1 [] [(.int .i64 3), (.slice a9 b0 b1)] [] rfl rfl (fun h => nomatch h)) _ (Chg.refl _ _))) ?_
  obtain ⟨h6, k9, e0, f7⟩ := box_store (P := Try.prog) a0 [] [(.int .i64 0), (.slice none 0 0)] [] [(.int .i64 3), (.slice a9 b0 b1)] rfl rfl (by intro u hu; simp only [List.mem_cons, List.not_mem_nil, or_false] at hu; rcases hu with rfl | rfl <;> rfl)
  refine pl_skip (w' := h6) (ys_store rfl rfl (k9 _ _ rfl Sz27)) ?_
  have hO := hO.fr2
  have a1 := a1.ap e0 hO same_ (mem_r (mem_l (List.mem_singleton.2 rfl)))
  have f6 := f6.ma e0 hO same_ (fun _ e => (mem_l (e)))
  have hC := hC.st e0 hO same_
  have hO := hO.ext e0
  have f7 : BoxV h6 a8 27 [(.int .i64 3), (.slice a9 b0 b1)] := f7
  refine c_nil ?_
  refine wp_ret ?_
  cases hs
  have hO := hO.drop
  have hO := hO.fr1
  have hO := hO.drop
  exact ⟨_, a8, a9, b0, b1, c4, fr_ovl 38 ⟨rfl, trivial⟩, f7, hC, f6, hO.top⟩

theorem Bd36 : Bodied Try.prog 36 := bodied Try.func36 (by kernel_rfl) rfl

def k_impl_discriminator (M : Nat → Prop) (w0 : World) (r : (Int × (List Int))) (a : Act) (w : World) : Prop :=
  ∃ (σ : Nat → Value) (rg2 : Nat) (ra0 : Option Addr) (rn0 rc0 : Nat) (rf0 : List Nat), a = fr 5 (ovl σ [(2, (.pointer (some ⟨rg2, 0, none⟩)))]) ∧ BoxV w rg2 27 [(.int .i64 r.1), (.slice ra0 rn0 rc0)] ∧ Chg [] w0 w ∧ (RT.os 3 (RT.int .i64)).val M w (.slice ra0 rn0 rc0) r.2 rf0 ∧ Own (Nw w0 []) (fun _ => True) w (rf0 ++ ([]))
def s_impl_discriminator (n : Int) : Option ((Int × (List Int))) :=
  (s_impl_ternary__impl_discriminator_1 n).bind fun r3 =>
  some (r3.1, r3.2)
set_option maxHeartbeats 4000000 in
theorem c_impl_discriminator {M : Nat → Prop} {w : World}  (n : Int)  (hM : ∀ g, w.heap.size ≤ g → M g) {r : (Int × (List Int))} (hs : s_impl_discriminator n = some r) :
    Gives Try.prog 33 [(.int .i64 n)] w (fun v w' => ∃ (ra0 : Option Addr) (rn0 rc0 : Nat) (rf0 : List Nat), v = (.agg #[(.int .i64 r.1), (.slice ra0 rn0 rc0)]) ∧ Chg [] w w' ∧ (RT.os 3 (RT.int .i64)).val M w' (.slice ra0 rn0 rc0) r.2 rf0 ∧ Own (Nw w []) (fun _ => True) w' (rf0 ++ ([]))) := by
 refine calls_fr Try.func33 rfl Try.ntmps33 (Nat.le_of_ble_eq_true rfl) ?_
 have hO := Own.start (N := Nw w []) hM Nw.fut
 have hC := Chg.refl [] w
 unfold s_impl_discriminator at hs
 refine wp_mono (Q := KPost (k_impl_discriminator M w r)) ?_ (fun e a a9 h => ?_)
 rotate_left
 ·cases e
  case ret =>
   obtain ⟨σ, rg2, ra0, rn0, rc0, rf0, rfl, hbrg2, hrest⟩ := h
   exact ret1x Try.results33 (res_cell rfl (box_load Ag27 Sz27 hbrg2 [] _ [] rfl rfl (fun h => nomatch h))) ⟨ra0, rn0, rc0, rf0, rfl, hrest⟩
  all_goals exact (h : False).elim
 refine c_sr ?_
 obtain ⟨a9, a0, b4, b0, b1, a1⟩ := new_block w [(.int .i64 0), (.slice none 0 0)] 27
 refine pl_val (w' := a9) (.pointer (some ⟨a0, 0, none⟩)) (y_alloc (by rw [b4, b0]; kernel_rfl)) ?_
 have hC := hC.ext b1
 have hO := hO.new1 b1 b0 a1.lt
 refine c_nil ?_
 refine c_sr ?_
 refine pl_val (.int .i64 n) (y_move rfl) ?_
 obtain ⟨r3, b5, hs⟩ := bind_some hs
 refine pl_call Bd36 rfl (c_impl_ternary__impl_discriminator_1 (M := M) n  hO.fut b5) ?_
 rintro _ b8 ⟨a2, a3, a4, b2, rfl, a5, a6, b6⟩
 have a1 := a1.cn a5
 have hC := hC.ext a5
 have hO := Own.join0 hO a5 b6
 have hO := hO.perm (R := b2 ++ (([a0]) ++ ([]))) (by simp)
 obtain ⟨b3, b7, a7, a8⟩ := box_store (P := Try.prog) a1 [] [(.int .i64 0), (.slice none 0 0)] [] [(.int .i64 r3.1), (.slice a2 a3 a4)] rfl rfl (by intro u hu; simp only [List.mem_cons, List.not_mem_nil, or_false] at hu; rcases hu with rfl | rfl <;> rfl)
 refine pl_skip (w' := b3) (ys_store rfl rfl (b7 _ _ rfl Sz27)) ?_
 have hO := hO.fr1
 have a6 := a6.ma a7 hO same_ (fun _ e => (mem_l (e)))
 have hC := hC.st a7 hO same_
 have hO := hO.ext a7
 have a8 : BoxV b3 a0 27 [(.int .i64 r3.1), (.slice a2 a3 a4)] := a8
 refine c_nil ?_
 refine wp_ret ?_
 cases hs
 have hO := hO.drop
 exact ⟨_, a0, a2, a3, a4, b2, fr_ovl 5 ⟨rfl, trivial⟩, a8, hC, a6, hO.top⟩

theorem Bd32 : Bodied Try.prog 32 := bodied Try.func32 (by kernel_rfl) rfl

theorem Bd33 : Bodied Try.prog 33 := bodied Try.func33 (by kernel_rfl) rfl

def k_impl_DiscriminatorOp (M : Nat → Prop) (w0 : World) (r : (Int × (List Int)) × Bool) (a : Act) (w : World) : Prop :=
  ∃ (σ : Nat → Value) (rg2 : Nat) (ra0 : Option Addr) (rn0 rc0 : Nat) (rf0 : List Nat), a = fr 10 (ovl σ [(2, (.pointer (some ⟨rg2, 0, none⟩))), (3, (.bool r.2))]) ∧ BoxV w rg2 27 [(.int .i64 r.1.1), (.slice ra0 rn0 rc0)] ∧ Chg [] w0 w ∧ (RT.os 3 (RT.int .i64)).val M w (.slice ra0 rn0 rc0) r.1.2 rf0 ∧ Own (Nw w0 []) (fun _ => True) w (rf0 ++ ([]))
def s_impl_DiscriminatorOp (n : Int) : Option ((Int × (List Int)) × Bool) :=
  (s_impl_isSize n).bind fun r3 =>
  (bif (!r3) then some ((0, []), false) else (s_impl_discriminator n).bind fun r7 =>
  some ((r7.1, r7.2), true))
set_option maxHeartbeats 4000000 in
theorem c_impl_DiscriminatorOp {M : Nat → Prop} {w : World}  (n : Int)  (hM : ∀ g, w.heap.size ≤ g → M g) {r : (Int × (List Int)) × Bool} (hs : s_impl_DiscriminatorOp n = some r) :
    Gives Try.prog 7 [(.int .i64 n)] w (fun v w' => ∃ (ra0 : Option Addr) (rn0 rc0 : Nat) (rf0 : List Nat), v = (.tuple #[(.agg #[(.int .i64 r.1.1), (.slice ra0 rn0 rc0)]), (.bool r.2)]) ∧ Chg [] w w' ∧ (RT.os 3 (RT.int .i64)).val M w' (.slice ra0 rn0 rc0) r.1.2 rf0 ∧ Own (Nw w []) (fun _ => True) w' (rf0 ++ ([]))) := by
 refine calls_fr Try.func7 rfl Try.ntmps7 (Nat.le_of_ble_eq_true rfl) ?_
 have hO := Own.start (N := Nw w []) hM Nw.fut
 have hC := Chg.refl [] w
 unfold s_impl_DiscriminatorOp at hs
 refine wp_mono (Q := KPost (k_impl_DiscriminatorOp M w r)) ?_ (fun e a b2 h => ?_)
 rotate_left
 ·cases e
  case ret =>
   obtain ⟨σ, rg2, ra0, rn0, rc0, rf0, rfl, hbrg2, hrest⟩ := h
   exact ret2x Try.results7 (res_cell rfl (box_load Ag27 Sz27 hbrg2 [] _ [] rfl rfl (fun h => nomatch h))) (res_tmp rfl) ⟨ra0, rn0, rc0, rf0, rfl, hrest⟩
  all_goals exact (h : False).elim
 refine c_sr ?_
 obtain ⟨b2, a1, b9, b3, b4, a0⟩ := new_block w [(.int .i64 0), (.slice none 0 0)] 27
 refine pl_val (w' := b2) (.pointer (some ⟨a1, 0, none⟩)) (y_alloc (by rw [b9, b3]; kernel_rfl)) ?_
 have hC := hC.ext b4
 have hO := hO.new1 b4 b3 a0.lt
 refine pl_val (.bool false) (y_assign rfl) ?_
 refine c_nil ?_
 refine c_seq ?_
 refine c_sr ?_
 refine pl_val (.int .i64 n) (y_move rfl) ?_
 obtain ⟨r3, c0, hs⟩ := bind_some hs
 refine pl_call Bd32 rfl (c_impl_isSize (M := M) n  hO.fut c0) ?_
 rintro _ c5 ⟨rfl, a2⟩
 have a0 := a0.cn a2
 have hC := hC.ext a2
 have hO := hO.ext a2
 refine pl_val (.bool (!r3)) (y_not rfl) ?_
 refine c_nil ?_
 rcases bif_some hs with ⟨a3, hs⟩ | ⟨a3, hs⟩
 ·refine c_condT (congrArg Value.bool a3) ?_
  refine c_sr ?_
  refine pl_val (.agg #[(.int .i64 0), (.slice none 0 0)]) (y_build rfl (by kernel_rfl)) ?_
  obtain ⟨b5, c1, b6, a4⟩ := box_store (P := Try.prog) a0 [] [(.int .i64 0), (.slice none 0 0)] [] [(.int .i64 0), (.slice none 0 0)] rfl rfl (by intro u hu; simp only [List.mem_cons, List.not_mem_nil, or_false] at hu; rcases hu with rfl | rfl <;> rfl)
  refine pl_skip (w' := b5) (ys_store rfl rfl (c1 _ _ rfl Sz27)) ?_
  have hC := hC.st b6 hO same_
  have hO := hO.ext b6
  have a4 : BoxV b5 a1 27 [(.int .i64 0), (.slice none 0 0)] := a4
  refine pl_val (.bool false) (y_assign rfl) ?_
  refine c_nil ?_
  refine wp_ret ?_
  cases hs
  have hO := hO.drop
  have hO := hO.nil
  exact ⟨_, a1, none, 0, 0, [], fr_ovl 10 ⟨rfl, rfl, trivial⟩, a4, hC, os_nil, hO.top⟩
 refine c_condF (congrArg Value.bool a3) ?_
 refine wp_skip ?_
 refine c_sr ?_
 refine pl_val (.int .i64 n) (y_move rfl) ?_
 obtain ⟨r7, c2, hs⟩ := bind_some hs
 refine pl_call Bd33 rfl (c_impl_discriminator (M := M) n  hO.fut c2) ?_
 rintro _ c6 ⟨a5, a6, a7, b7, rfl, a8, a9, c3⟩
 have a0 := a0.cn a8
 have hC := hC.ext a8
 have hO := Own.join0 hO a8 c3
 have hO := hO.perm (R := b7 ++ (([a1]) ++ ([]))) (by simp)
 obtain ⟨b8, c4, b0, b1⟩ := box_store (P := Try.prog) a0 [] [(.int .i64 0), (.slice none 0 0)] [] [(.int .i64 r7.1), (.slice a5 a6 a7)] rfl rfl (by intro u hu; simp only [List.mem_cons, List.not_mem_nil, or_false] at hu; rcases hu with rfl | rfl <;> rfl)
 refine pl_skip (w' := b8) (ys_store rfl rfl (c4 _ _ rfl Sz27)) ?_
 have hO := hO.fr1
 have a9 := a9.ma b0 hO same_ (fun _ e => (mem_l (e)))
 have hC := hC.st b0 hO same_
 have hO := hO.ext b0
 have b1 : BoxV b8 a1 27 [(.int .i64 r7.1), (.slice a5 a6 a7)] := b1
 refine pl_val (.bool true) (y_assign rfl) ?_
 refine c_nil ?_
 refine wp_ret ?_
 cases hs
 have hO := hO.drop
 exact ⟨_, a1, a5, a6, a7, b7, fr_ovl 10 ⟨rfl, rfl, trivial⟩, b1, hC, a9, hO.top⟩

def k_spec_l1In (M : Nat → Prop) (w0 : World) (r : Bool) (a : Act) (w : World) : Prop :=
  ∃ (σ : Nat → Value) , a = fr 15 (ovl σ [(6, (.bool r))]) ∧ Chg [] w0 w
def s_spec_l1In (x_ : Int) (a_ : Int) (b : Int) : Option (Bool) :=
  (bif (decide (a_ ≤ x_)) then some (decide (x_ ≤ b)) else some false)
set_option maxHeartbeats 4000000 in
theorem c_spec_l1In {M : Nat → Prop} {w : World}  (x_ : Int) (a_ : Int) (b : Int)  (hM : ∀ g, w.heap.size ≤ g → M g) {r : Bool} (hs : s_spec_l1In x_ a_ b = some r) :
    Gives Try.prog 64 [(.int .i64 x_), (.int .i64 a_), (.int .i64 b)] w (fun v w' => v = (.bool r) ∧ Chg [] w w') := by
 refine calls_fr Try.func64 rfl Try.ntmps64 (Nat.le_of_ble_eq_true rfl) ?_
 have hO := Own.start (N := Nw w []) hM Nw.fut
 have hC := Chg.refl [] w
 unfold s_spec_l1In at hs
 refine wp_mono (Q := KPost (k_spec_l1In M w r)) ?_ (fun e a a1 h => ?_)
 rotate_left
 ·cases e
  case ret =>
   obtain ⟨σ, rfl, hrest⟩ := h
   exact ret1x Try.results64 (res_tmp rfl) ⟨rfl, hrest⟩
  all_goals exact (h : False).elim
 refine c_sr ?_
 refine pl_val (.bool false) (y_assign rfl) ?_
 refine c_nil ?_
 refine c_sr ?_
 refine pl_val (.int .i64 x_) (y_move rfl) ?_
 refine pl_val (.int .i64 a_) (y_move rfl) ?_
 refine pl_val (.bool (decide (a_ ≤ x_))) (y_geq rfl rfl) ?_
 refine pl_val (.bool (decide (a_ ≤ x_))) (y_move rfl) ?_
 rcases bif_some hs with ⟨a0, hs⟩ | ⟨a0, hs⟩
 ·skip
  refine pl_yes (.int .i64 x_) (tg := 10) (by kernel_rfl) (congrArg Value.bool a0) (y_move rfl) ?_
  refine pl_yes (.int .i64 b) (tg := 10) (by kernel_rfl) (congrArg Value.bool a0) (y_move rfl) ?_
  refine pl_yes (.bool (decide (x_ ≤ b))) (tg := 10) (by kernel_rfl) (congrArg Value.bool a0) (y_leq rfl rfl) ?_
  refine pl_val (.bool (decide (x_ ≤ b))) (y_pick_t (congrArg Value.bool a0) rfl) ?_
  refine pl_val (.bool (decide (x_ ≤ b))) (y_assign rfl) ?_
  refine c_nil ?_
  refine wp_ret ?_
  cases hs
  exact ⟨_, fr_ovl 15 ⟨rfl, trivial⟩, hC⟩
 refine pl_not (tg := 10) (by kernel_rfl) (congrArg Value.bool a0) ?_
 refine pl_not (tg := 10) (by kernel_rfl) (congrArg Value.bool a0) ?_
 refine pl_not (tg := 10) (by kernel_rfl) (congrArg Value.bool a0) ?_
 refine pl_val (.bool false) (y_pick_f (congrArg Value.bool a0) rfl) ?_
 refine pl_val (.bool false) (y_assign rfl) ?_
 refine c_nil ?_
 refine wp_ret ?_
 cases hs
 exact ⟨_, fr_ovl 15 ⟨rfl, trivial⟩, hC⟩

theorem Bd64 : Bodied Try.prog 64 := bodied Try.func64 (by kernel_rfl) rfl

def k_spec_l6Size (M : Nat → Prop) (w0 : World) (r : Bool) (a : Act) (w : World) : Prop :=
  ∃ (σ : Nat → Value) , a = fr 5 (ovl σ [(2, (.bool r))]) ∧ Chg [] w0 w
def s_spec_l6Size (n : Int) : Option (Bool) :=
  (s_spec_l1In n 1 8).bind fun r2 =>
  some r2
set_option maxHeartbeats 4000000 in
theorem c_spec_l6Size {M : Nat → Prop} {w : World}  (n : Int)  (hM : ∀ g, w.heap.size ≤ g → M g) {r : Bool} (hs : s_spec_l6Size n = some r) :
    Gives Try.prog 34 [(.int .i64 n)] w (fun v w' => v = (.bool r) ∧ Chg [] w w') := by
 refine calls_fr Try.func34 rfl Try.ntmps34 (Nat.le_of_ble_eq_true rfl) ?_
 have hO := Own.start (N := Nw w []) hM Nw.fut
 have hC := Chg.refl [] w
 unfold s_spec_l6Size at hs
 refine wp_mono (Q := KPost (k_spec_l6Size M w r)) ?_ (fun e a a1 h => ?_)
 rotate_left
 ·cases e
  case ret =>
   obtain ⟨σ, rfl, hrest⟩ := h
   exact ret1x Try.results34 (res_tmp rfl) ⟨rfl, hrest⟩
  all_goals exact (h : False).elim
 refine c_sr ?_
 refine pl_val (.bool false) (y_assign rfl) ?_
 refine c_nil ?_
 refine c_sr ?_
 refine pl_val (.int .i64 n) (y_move rfl) ?_
 obtain ⟨r2, a2, hs⟩ := bind_some hs
 refine pl_call Bd64 rfl (c_spec_l1In (M := M) n 1 8  hO.fut a2) ?_
 rintro _ a1 ⟨rfl, a0⟩
 have hC := hC.ext a0
 have hO := hO.ext a0
 refine pl_val (.bool r2) (y_assign rfl) ?_
 refine c_nil ?_
 refine wp_ret ?_
 cases hs
 exact ⟨_, fr_ovl 5 ⟨rfl, trivial⟩, hC⟩

def k_spec_l2Args (M : Nat → Prop) (w0 : World) (r : (List Int)) (a : Act) (w : World) : Prop :=
  ∃ (σ : Nat → Value) (ra0 : Option Addr) (rn0 rc0 : Nat) (rf0 : List Nat), a = fr 27 (ovl σ [(6, (.slice ra0 rn0 rc0))]) ∧ Chg [] w0 w ∧ (RT.os 3 (RT.int .i64)).val M w (.slice ra0 rn0 rc0) r rf0 ∧ Own (Nw w0 []) (fun _ => True) w (rf0 ++ ([]))
def s_spec_l2Args (n : Int) (arity : Int) (at_ : Int) : Option ((List Int)) :=
  (mks arity (0 : Int)).bind fun y2 =>
  (iter (S := Int × Int × (List Int)) (R := (List Int)) (fun s17 =>
  (bif (decide (0 ≤ s17.2.1)) then (nz n).bind fun u26 =>
  (idx s17.2.2 s17.2.1).bind fun x27 =>
  (nz n).bind fun u30 =>
  some (.nx (w64 (Int.tdiv s17.1 n), w64 (s17.2.1 - 1), List.set s17.2.2 (Int.toNat s17.2.1) (Int.tmod s17.1 n))) else some (.br (s17.1, s17.2.1, s17.2.2)))) FU (at_, w64 (arity - 1), y2)).bind fun o21 => after o21 (fun r_ => some r_) (fun s17 =>
  some s17.2.2)
set_option maxHeartbeats 4000000 in
theorem c_spec_l2Args {M : Nat → Prop} {w : World}  (n : Int) (arity : Int) (at_ : Int)  (hM : ∀ g, w.heap.size ≤ g → M g) {r : (List Int)} (hs : s_spec_l2Args n arity at_ = some r) :
    Gives Try.prog 65 [(.int .i64 n), (.int .i64 arity), (.int .i64 at_)] w (fun v w' => ∃ (ra0 : Option Addr) (rn0 rc0 : Nat) (rf0 : List Nat), v = (.slice ra0 rn0 rc0) ∧ Chg [] w w' ∧ (RT.os 3 (RT.int .i64)).val M w' (.slice ra0 rn0 rc0) r rf0 ∧ Own (Nw w []) (fun _ => True) w' (rf0 ++ ([]))) := by
 refine calls_fr Try.func65 rfl Try.ntmps65 (Nat.le_of_ble_eq_true rfl) ?_
 have hO := Own.start (N := Nw w []) hM Nw.fut
 have hC := Chg.refl [] w
 unfold s_spec_l2Args at hs
 refine wp_mono (Q := KPost (k_spec_l2Args M w r)) ?_ (fun e a a7 h => ?_)
 rotate_left
 ·cases e
  case ret =>
   obtain ⟨σ, ra0, rn0, rc0, rf0, rfl, hrest⟩ := h
   exact ret1x Try.results65 (res_tmp rfl) ⟨ra0, rn0, rc0, rf0, rfl, hrest⟩
  all_goals exact (h : False).elim
 refine c_sr ?_
 refine pl_val (.slice none 0 0) (y_assign rfl) ?_
 refine c_nil ?_
 refine c_sr ?_
 refine pl_val (.int .i64 arity) (y_move rfl) ?_
 obtain ⟨y2, b5, hs⟩ := bind_some hs
 obtain ⟨a0, a1, a2, a7, b6, b7, b1, b8, a8⟩ := mk_os (M := M) (w := w) (r := (RT.int .i64)) Rw25 b5 (fun _ _ => ⟨rfl, rfl⟩)
 refine pl_val (w' := a7) (.slice a0 a1 a2) (y_make rfl rfl b7) ?_
 have hC := hC.ext b1
 have hO := hO.new b1 b8 (os_nodup a8) a8.fpl
 refine pl_val (.slice a0 a1 a2) (y_assign rfl) ?_
 refine c_nil ?_
 refine c_seq ?_
 refine c_sr ?_
 refine pl_val (.int .i64 arity) (y_move rfl) ?_
 refine pl_val (.int .i64 (w64 (arity - 1))) (y_sub rfl rfl) ?_
 refine pl_val (.int .i64 (w64 (arity - 1))) (y_assign rfl) ?_
 refine c_nil ?_
 obtain ⟨o21, b9, hs⟩ := bind_some hs
 refine wp_block ?_
 refine wp_iter (id := 0) (I := fun s17 a a3 => ∃ (σ : Nat → Value) (a4 : List Nat), a = fr 27 (ovl σ [(0, (.int .i64 n)), (2, (.int .i64 s17.1)), (7, (.slice a0 a1 a2)), (8, (.int .i64 s17.2.1))]) ∧ Chg [] w a3 ∧ Own (Nw w []) M a3 (a4 ++ []) ∧ (RT.os 3 (RT.int .i64)).val M a3 (.slice a0 a1 a2) s17.2.2 a4) (J := fun s17 a a3 => ∃ (σ : Nat → Value) (a6 : List Nat), a = fr 27 (ovl σ [(7, (.slice a0 a1 a2))]) ∧ Chg [] w a3 ∧ Own (Nw w []) M a3 (a6 ++ []) ∧ (RT.os 3 (RT.int .i64)).val M a3 (.slice a0 a1 a2) s17.2.2 a6) (K := (k_spec_l2Args M w)) ?_ FU (at_, w64 (arity - 1), y2) o21 _ _ ?_ b9 ?_
 ·rintro s17 o21 a a3 ⟨σ, a4, rfl, hC, hO, a5⟩ hs
  refine c_seq ?_
  refine c_sr ?_
  refine pl_val (.int .i64 s17.2.1) (y_move rfl) ?_
  refine pl_val (.bool (decide (0 ≤ s17.2.1))) (y_geq rfl rfl) ?_
  refine c_nil ?_
  rcases bif_some hs with ⟨a9, hs⟩ | ⟨a9, hs⟩
  ·refine c_condT (congrArg Value.bool a9) ?_
   refine wp_skip ?_
   refine c_seq ?_
   refine wp_block ?_
   refine c_sr ?_
   refine pl_val (.slice a0 a1 a2) (y_move rfl) ?_
   refine pl_val (.int .i64 s17.2.1) (y_move rfl) ?_
   refine pl_val (.int .i64 s17.1) (y_move rfl) ?_
   refine pl_val (.int .i64 n) (y_move rfl) ?_
   obtain ⟨u26, c0, hs⟩ := bind_some hs
   refine pl_val (.int .i64 (Int.tmod s17.1 n)) (y_rem rfl rfl (nz_ne c0)) ?_
   obtain ⟨x27, c1, hs⟩ := bind_some hs
   obtain ⟨b2, d1, b3, c2, c3, d2, d3⟩ := os_idx Sl25 Sz3 a5 c1
   refine pl_val (.pointer (some ⟨b2, 0 + Int.toNat s17.2.1 * 1, none⟩)) (c3 _ _ _ _ _ _ _ _ _ rfl rfl) ?_
   obtain ⟨c4, c5, c6, b4, c7, b0⟩ := os_store (P := Try.prog) (c' := [(.int .i64 (Int.tmod s17.1 n))]) b3 a5 c2 (fun g hg => hO.inM g (os_block a5 g (by simpa using hg))) ⟨rfl, rfl⟩ List.nodup_nil (fun _ h => nomatch h) (fun _ h => .inl h)
   have c8 : ∀ q ∈ [b2], q ∈ a4 := fun q hq => os_block a5 q (by rw [b3]; exact hq)
   refine pl_skip (w' := c4) (ys_store rfl rfl (c6 _ _ rfl Sz3)) ?_
   have hC := hC.st b4 hO c8
   have hO := hO.grow b4 (fun q hq => .inl ((c7 q hq).resolve_right (fun h => nomatch h))) (os_nodup b0) b0.fpl
   refine c_nil ?_
   refine c_region ?_
   refine pl_val (.int .i64 s17.1) (y_move rfl) ?_
   refine pl_val (.int .i64 n) (y_move rfl) ?_
   obtain ⟨u30, c9, hs⟩ := bind_some hs
   refine pl_val (.int .i64 (w64 (Int.tdiv s17.1 n))) (y_quo rfl rfl (nz_ne c9)) ?_
   refine pl_val (.int .i64 (w64 (Int.tdiv s17.1 n))) (y_assign rfl) ?_
   refine c_nil ?_
   refine c_region ?_
   refine pl_val (.int .i64 s17.2.1) (y_move rfl) ?_
   refine pl_val (.int .i64 (w64 (s17.2.1 - 1))) (y_sub rfl rfl) ?_
   refine pl_val (.int .i64 (w64 (s17.2.1 - 1))) (y_assign rfl) ?_
   refine c_nil ?_
   cases hs
   exact ⟨_, c5, fr_ovl 27 ⟨rfl, rfl, rfl, rfl, trivial⟩, hC, hO, b0⟩
  refine c_condF (congrArg Value.bool a9) ?_
  refine wp_exit ?_
  cases hs
  exact ⟨rfl, _, a4, fr_ovl 27 ⟨rfl, trivial⟩, hC, hO, a5⟩
 ·skip
  exact ⟨_, b6, fr_ovl 27 ⟨rfl, rfl, rfl, rfl, trivial⟩, hC, hO, a8⟩
 cases o21 with
 | nx _ => exact True.intro
 | rt r_ =>
  have hs := after_rt hs
  intro a0 a7 hK
  cases hs
  exact hK
 | br s17 =>
  have hs := after_br hs
  rintro a0 a3 ⟨σ, a6, rfl, hC, hO, d0⟩
  refine c_sr ?_
  refine pl_val (.slice a0 a1 a2) (y_move rfl) ?_
  refine pl_val (.slice a0 a1 a2) (y_assign rfl) ?_
  refine c_nil ?_
  refine wp_ret ?_
  cases hs
  exact ⟨_, a0, a1, a2, a6, fr_ovl 27 ⟨rfl, trivial⟩, hC, d0, hO.top⟩

theorem Bd65 : Bodied Try.prog 65 := bodied Try.func65 (by kernel_rfl) rfl

def k_spec_l18Op (M : Nat → Prop) (w0 : World) (r : (Int × (List Int))) (a : Act) (w : World) : Prop :=
  ∃ (σ : Nat → Value) (rg4 : Nat) (ra0 : Option Addr) (rn0 rc0 : Nat) (rf0 : List Nat), a = fr 48 (ovl σ [(4, (.pointer (some ⟨rg4, 0, none⟩)))]) ∧ BoxV w rg4 27 [(.int .i64 r.1), (.slice ra0 rn0 rc0)] ∧ Chg [] w0 w ∧ (RT.os 3 (RT.int .i64)).val M w (.slice ra0 rn0 rc0) r.2 rf0 ∧ Own (Nw w0 []) (fun _ => True) w (rf0 ++ ([]))
def s_spec_l18Op (n : Int) (dual : Bool) : Option ((Int × (List Int))) :=
  (forC (S := (List Int)) (R := (Int × (List Int))) (fun k74 s72 =>
  (s_spec_l2Args n 3 k74).bind fun r83 =>
  (idx r83 0).bind fun x91 =>
  (idx r83 1).bind fun x93 =>
  (bif ((x91 == x93) == dual) then (idx r83 0).bind fun x97 =>
  (app s72 ([x97])).bind fun y102 =>
  some (.nx y102) else (idx r83 2).bind fun x106 =>
  (app s72 ([x106])).bind fun y111 =>
  some (.nx y111))) 0 (w64 ((w64 (n * n)) * n)) ([])).bind fun o76 => after o76 (fun r_ => some r_) (fun s72 =>
  some (3, s72))
set_option maxHeartbeats 4000000 in
theorem c_spec_l18Op {M : Nat → Prop} {w : World}  (n : Int) (dual : Bool)  (hM : ∀ g, w.heap.size ≤ g → M g) {r : (Int × (List Int))} (hs : s_spec_l18Op n dual = some r) :
    Gives Try.prog 35 [(.int .i64 n), (.bool dual)] w (fun v w' => ∃ (ra0 : Option Addr) (rn0 rc0 : Nat) (rf0 : List Nat), v = (.agg #[(.int .i64 r.1), (.slice ra0 rn0 rc0)]) ∧ Chg [] w w' ∧ (RT.os 3 (RT.int .i64)).val M w' (.slice ra0 rn0 rc0) r.2 rf0 ∧ Own (Nw w []) (fun _ => True) w' (rf0 ++ ([]))) := by
 refine calls_fr Try.func35 rfl Try.ntmps35 (Nat.le_of_ble_eq_true rfl) ?_
 have hO := Own.start (N := Nw w []) hM Nw.fut
 have hC := Chg.refl [] w
 unfold s_spec_l18Op at hs
 refine wp_mono (Q := KPost (k_spec_l18Op M w r)) ?_ (fun e a d2 h => ?_)
 rotate_left
 ·cases e
  case ret =>
   obtain ⟨σ, rg4, ra0, rn0, rc0, rf0, rfl, hbrg4, hrest⟩ := h
   exact ret1x Try.results35 (res_cell rfl (box_load Ag27 Sz27 hbrg4 [] _ [] rfl rfl (fun h => nomatch h))) ⟨ra0, rn0, rc0, rf0, rfl, hrest⟩
  all_goals exact (h : False).elim
 refine c_sr ?_
 obtain ⟨d2, a9, h5, f6, f7, a0⟩ := new_block w [(.int .i64 0), (.slice none 0 0)] 27
 refine pl_val (w' := d2) (.pointer (some ⟨a9, 0, none⟩)) (y_alloc (by rw [h5, f6]; kernel_rfl)) ?_
 have hC := hC.ext f7
 have hO := hO.new1 f7 f6 a0.lt
 refine c_nil ?_
 refine c_sr ?_
 obtain ⟨e5, b0, h6, f8, e6, f9⟩ := new_block d2 [] 3
 refine pl_val (w' := e5) (.slice (some ⟨b0, 0, none⟩) 0 0) (y_bslice rfl (by rw [h6, f8]; kernel_rfl)) ?_
 have a0 := a0.cn e6
 have hC := hC.ext e6
 have hO := hO.new1 e6 f8 f9.lt
 have b6 := os_of_box (r := (RT.int .i64)) (M := M) (css := []) (fps := []) (xs := ([] : List Int)) f9 trivial (Nat.zero_le _) (List.nodup_cons.2 ⟨(fun h => nomatch h), List.nodup_nil⟩)
 have b6 : (RT.os 3 (RT.int .i64)).val M e5 (.slice (some ⟨b0, 0, none⟩) 0 0) [] [b0] := b6
 refine pl_val (.agg #[(.int .i64 3), (.slice (some ⟨b0, 0, none⟩) 0 0)]) (y_build rfl (by kernel_rfl)) ?_
 obtain ⟨h7, a4, h8, g0, d3, g1⟩ := new_block e5 [(.int .i64 0), (.slice none 0 0)] 27
 refine pl_val (w' := h7) (.pointer (some ⟨a4, 0, none⟩)) (y_alloc (by rw [h8, g0]; kernel_rfl)) ?_
 have a0 := a0.cn d3
 have b6 := b6.ext d3
 have hC := hC.ext d3
 have hO := hO.new1 d3 g0 g1.lt
 obtain ⟨g2, h9, d4, a1⟩ := box_store (P := Try.prog) g1 [] [(.int .i64 0), (.slice none 0 0)] [] [(.int .i64 3), (.slice (some ⟨b0, 0, none⟩) 0 0)] rfl rfl (by intro u hu; simp only [List.mem_cons, List.not_mem_nil, or_false] at hu; rcases hu with rfl | rfl <;> rfl)
 refine pl_skip (w' := g2) (ys_store rfl rfl (h9 _ _ rfl Sz27)) ?_
 have a0 := a0.ap d4 hO same_ (mem_r (mem_l (List.mem_singleton.2 rfl)))
 have b6 := b6.ma d4 hO same_ (fun _ e => (mem_l (e)))
 have hC := hC.st d4 hO same_
 have hO := hO.ext d4
 have a1 : BoxV g2 a4 27 [(.int .i64 3), (.slice (some ⟨b0, 0, none⟩) 0 0)] := a1
 refine c_nil ?_
 refine c_seq ?_
 refine c_sr ?_
 refine pl_val (.int .i64 0) (y_assign rfl) ?_
 refine c_nil ?_
 obtain ⟨o76, i0, hs⟩ := bind_some hs
 refine wp_block ?_
 refine wp_forC (id := 0) (w64 ((w64 (n * n)) * n)) (I := fun k74 s72 a a5 => ∃ (σ : Nat → Value) (a6 : Option Addr) (a7 : Nat) (a8 : Nat) (c0 : List Nat), a = fr 48 (ovl σ [(0, (.int .i64 n)), (1, (.bool dual)), (4, (.pointer (some ⟨a9, 0, none⟩))), (5, (.pointer (some ⟨a4, 0, none⟩))), (6, (.int .i64 k74))]) ∧ Chg [] w a5 ∧ Own (Nw w []) M a5 (c0 ++ (([a4]) ++ (([a9]) ++ []))) ∧ BoxV a5 a9 27 [(.int .i64 0), (.slice none 0 0)] ∧ BoxV a5 a4 27 [(.int .i64 3), (.slice a6 a7 a8)] ∧ (RT.os 3 (RT.int .i64)).val M a5 (.slice a6 a7 a8) s72 c0) (J := fun s72 a a5 => ∃ (σ : Nat → Value) (b1 : Option Addr) (b2 : Nat) (b3 : Nat) (d5 : List Nat), a = fr 48 (ovl σ [(4, (.pointer (some ⟨a9, 0, none⟩))), (5, (.pointer (some ⟨a4, 0, none⟩)))]) ∧ Chg [] w a5 ∧ Own (Nw w []) M a5 (d5 ++ (([a4]) ++ (([a9]) ++ []))) ∧ BoxV a5 a9 27 [(.int .i64 0), (.slice none 0 0)] ∧ BoxV a5 a4 27 [(.int .i64 3), (.slice b1 b2 b3)] ∧ (RT.os 3 (RT.int .i64)).val M a5 (.slice b1 b2 b3) s72 d5) (K := (k_spec_l18Op M w)) ?_ ?_ 0 ([]) o76 _ _ ?_ i0 ?_
 ·rintro k74 s72 a a5 ⟨σ, a6, a7, a8, c0, rfl, hC, hO, a0, a1, a3⟩ hlt
  refine c_seq ?_
  refine c_sr ?_
  refine pl_val (.int .i64 k74) (y_move rfl) ?_
  refine pl_val (.int .i64 n) (y_move rfl) ?_
  refine pl_val (.int .i64 n) (y_move rfl) ?_
  refine pl_val (.int .i64 (w64 (n * n))) (y_mul rfl rfl) ?_
  refine pl_val (.int .i64 n) (y_move rfl) ?_
  refine pl_val (.int .i64 (w64 ((w64 (n * n)) * n))) (y_mul rfl rfl) ?_
  refine pl_val (.bool (decide (k74 < (w64 ((w64 (n * n)) * n))))) (y_lss rfl rfl) ?_
  refine c_nil ?_
  refine c_condF (congrArg Value.bool (decide_eq_false hlt)) ?_
  refine wp_exit ?_
  have hO := hO.fr2
  have hO := hO.fr2
  have hO := hO.fr2
  exact ⟨rfl, _, a6, a7, a8, c0, fr_ovl 48 ⟨rfl, rfl, trivial⟩, hC, hO, a0, a1, a3⟩
 ·rintro k74 s72 o76 a a5 ⟨σ, a6, a7, a8, c0, rfl, hC, hO, a0, a1, a3⟩ hlt hw hs
  refine c_seq ?_
  refine c_sr ?_
  refine pl_val (.int .i64 k74) (y_move rfl) ?_
  refine pl_val (.int .i64 n) (y_move rfl) ?_
  refine pl_val (.int .i64 n) (y_move rfl) ?_
  refine pl_val (.int .i64 (w64 (n * n))) (y_mul rfl rfl) ?_
  refine pl_val (.int .i64 n) (y_move rfl) ?_
  refine pl_val (.int .i64 (w64 ((w64 (n * n)) * n))) (y_mul rfl rfl) ?_
  refine pl_val (.bool (decide (k74 < (w64 ((w64 (n * n)) * n))))) (y_lss rfl rfl) ?_
  refine c_nil ?_
  refine c_condT (congrArg Value.bool (decide_eq_true hlt)) ?_
  refine wp_skip ?_
  refine c_seq ?_
  refine wp_block ?_
  refine c_sr ?_
  refine pl_val (.int .i64 n) (y_move rfl) ?_
  refine pl_val (.int .i64 k74) (y_move rfl) ?_
  obtain ⟨r83, i1, hs⟩ := bind_some hs
  refine pl_call Bd65 rfl (c_spec_l2Args (M := M) n 3 k74  hO.fut i1) ?_
  rintro _ g3 ⟨c1, c2, c3, i2, rfl, c4, a2, i3⟩
  have a0 := a0.cn c4
  have a1 := a1.cn c4
  have a3 := a3.ext c4
  have hC := hC.ext c4
  have hO := Own.join0 hO c4 i3
  have hO := hO.perm (R := i2 ++ (c0 ++ (([a4]) ++ (([a9]) ++ ([]))))) (by simp)
  refine pl_val (.slice c1 c2 c3) (y_assign rfl) ?_
  refine c_nil ?_
  refine c_seq ?_
  refine x_start [] Mx rfl ?_
  have b7 := Chg.drew g3
  generalize World.drew g3 = c5 at b7 ⊢
  have a0 := a0.cn b7
  have a1 := a1.cn b7
  have a3 := a3.ext b7
  have a2 := a2.ext b7
  have hC := hC.ext b7
  have hO := hO.ext b7
  have hS := Chg.refl [] c5
  refine x_p 0 (.slice c1 c2 c3) rfl (by kernel_rfl)  (fun _ => y_move rfl) (fun _ => hS) ?_
  obtain ⟨x91, i4, hs⟩ := bind_some hs
  obtain ⟨i5, l7, l8, l9, i6, i7, m0⟩ := os_idx Sl25 Sz3 a2 i4
  refine x_p 1 (.pointer (some ⟨i5, 0 + Int.toNat 0 * 1, none⟩)) rfl (by kernel_rfl)  (fun _ => i6 _ _ _ _ _ _ _ _ _ rfl rfl) (fun _ => hS) ?_
  refine x_l 2 (.int .i64 x91) rfl (by kernel_rfl)  (fun w' hw' => y_load rfl ((at_load_int Ag3 Sz3 i7) w' hw')) hS ?_
  refine x_p 3 (.slice c1 c2 c3) rfl (by kernel_rfl)  (fun _ => y_move rfl) (fun _ => hS) ?_
  obtain ⟨x93, i9, hs⟩ := bind_some hs
  obtain ⟨j0, m1, m2, m3, j1, j2, m4⟩ := os_idx Sl25 Sz3 a2 i9
  refine x_p 4 (.pointer (some ⟨j0, 0 + Int.toNat 1 * 1, none⟩)) rfl (by kernel_rfl)  (fun _ => j1 _ _ _ _ _ _ _ _ _ rfl rfl) (fun _ => hS) ?_
  refine x_l 5 (.int .i64 x93) rfl (by kernel_rfl)  (fun w' hw' => y_load rfl ((at_load_int Ag3 Sz3 j2) w' hw')) hS ?_
  refine x_p 6 (.bool (x91 == x93)) rfl (by kernel_rfl)  (fun _ => y_eql rfl rfl) (fun _ => hS) ?_
  refine x_p 7 (.bool dual) rfl (by kernel_rfl)  (fun _ => y_move rfl) (fun _ => hS) ?_
  refine x_p 8 (.bool ((x91 == x93) == dual)) rfl (by kernel_rfl)  (fun _ => y_beql Try.underlying4 rfl rfl) (fun _ => hS) ?_
  refine x_end (by kernel_rfl) ?_
  clear hS
  rcases bif_some hs with ⟨e7, hs⟩ | ⟨e7, hs⟩
  ·refine c_condT (congrArg Value.bool e7) ?_
   refine x_start [6, 8] Mx rfl ?_
   have b8 := Chg.drew c5
   generalize World.drew c5 = g4 at b8 ⊢
   have a0 := a0.cn b8
   have a1 := a1.cn b8
   have a3 := a3.ext b8
   have a2 := a2.ext b8
   have hC := hC.ext b8
   have hO := hO.ext b8
   have hS := Chg.refl [] g4
   refine x_p 0 (.pointer (some ⟨a4, 1, none⟩)) rfl (by kernel_rfl)  (fun _ => y_faddr rfl Fa27x1) (fun _ => hS) ?_
   refine x_l 1 (.slice a6 a7 a8) rfl (by kernel_rfl)  (fun w' hw' => y_load rfl ((box_load Ag25 Sz25 a1 [(.int .i64 3)] [(.slice a6 a7 a8)] [] rfl rfl (fun _ => rfl)) w' hw')) hS ?_
   refine x_p 2 (.slice c1 c2 c3) rfl (by kernel_rfl)  (fun _ => y_move rfl) (fun _ => hS) ?_
   obtain ⟨x97, j3, hs⟩ := bind_some hs
   obtain ⟨j4, m5, m6, m7, j5, j6, m8⟩ := os_idx Sl25 Sz3 a2 j3
   refine x_p 3 (.pointer (some ⟨j4, 0 + Int.toNat 0 * 1, none⟩)) rfl (by kernel_rfl)  (fun _ => j5 _ _ _ _ _ _ _ _ _ rfl rfl) (fun _ => hS) ?_
   refine x_l 4 (.int .i64 x97) rfl (by kernel_rfl)  (fun w' hw' => y_load rfl ((at_load_int Ag3 Sz3 j6) w' hw')) hS ?_
   refine x_one (i := 5) (by kernel_rfl) ?_
   obtain ⟨g5, e8, j7, g6, b4, g7⟩ := new_block g4 [(.int .i64 x97)] 3
   refine xk_val (w' := g5) (b := false) (.slice (some ⟨e8, 0, none⟩) 1 1) rfl  (y_bslice rfl (by rw [j7, g6]; kernel_rfl)) rfl (fun _ => hS.ext b4) ?_
   have a0 := a0.cn b4
   have a1 := a1.cn b4
   have a3 := a3.ext b4
   have a2 := a2.ext b4
   have hC := hC.ext b4
   have hO := hO.new1 b4 g6 g7.lt
   have e9 := os_of_box (r := (RT.int .i64)) (M := M) (css := [[(.int .i64 x97)]]) (fps := [([] : List Nat)]) (xs := ([x97] : List Int)) g7 ⟨⟨rfl, rfl⟩, trivial⟩ (Nat.le_of_ble_eq_true rfl) (List.nodup_cons.2 ⟨(fun h => nomatch h), List.nodup_nil⟩)
   have e9 : (RT.os 3 (RT.int .i64)).val M g5 (.slice (some ⟨e8, 0, none⟩) 1 1) [x97] [e8] := e9
   have hS := hS.ext b4
   refine x_one (i := 6) (by kernel_rfl) ?_
   obtain ⟨y102, j8, hs⟩ := bind_some hs
   have hO := hO.fr2
   obtain ⟨d6, d7, d8, j9, k0, k1, c6, k2, c7⟩ := app_os Rw25 j8 a3 e9 hO.inM (fun g hg hq => hO.apart g hq (mem_l hg))
   have d9 := os_block a3
   refine xk_val (w' := j9) (b := true) (.slice d6 d7 d8) rfl  (y_append rfl rfl (k1 _)) rfl (fun h => nomatch h) ?_
   have hO := hO.fr1
   have hO := hO.fr1
   have a0 := a0.ap c6 hO d9 (mem_r (mem_r (mem_r (mem_l (List.mem_singleton.2 rfl)))))
   have a1 := a1.ap c6 hO d9 (mem_r (mem_r (mem_l (List.mem_singleton.2 rfl))))
   have a2 := a2.ma c6 hO d9 (fun _ e => (mem_r (mem_l (e))))
   have hC := hC.st c6 hO d9
   have hO := hO.eat c6 k2 (os_nodup c7) c7.fpl
   refine x_p 7 (.pointer (some ⟨a4, 1, none⟩)) rfl (by kernel_rfl)  (fun _ => y_faddr rfl Fa27x1) (fun h => nomatch h) ?_
   refine x_one (i := 8) (by kernel_rfl) ?_
   obtain ⟨g8, k3, c8, f0⟩ := box_store (P := Try.prog) a1 [(.int .i64 3)] [(.slice a6 a7 a8)] [] [(.slice d6 d7 d8)] rfl rfl (by intro u hu; simp only [List.mem_cons, List.not_mem_nil, or_false] at hu; rcases hu with rfl <;> rfl)
   refine xk_skip (w' := g8) (b := true) rfl (ys_store rfl rfl (k3 _ _ rfl Sz25)) rfl (fun h => nomatch h) ?_
   have hO := hO.fr2
   have a0 := a0.ap c8 hO same_ (mem_r (mem_r (mem_l (List.mem_singleton.2 rfl))))
   have a2 := a2.ma c8 hO same_ (fun _ e => (mem_r (mem_l (e))))
   have c7 := c7.ma c8 hO same_ (fun _ e => (mem_l (e)))
   have hC := hC.st c8 hO same_
   have hO := hO.ext c8
   have f0 : BoxV g8 a4 27 [(.int .i64 3), (.slice d6 d7 d8)] := f0
   refine x_end (by kernel_rfl) ?_
   clear hS
   refine c_region ?_
   refine pl_val (.int .i64 k74) (y_move rfl) ?_
   refine pl_val (.int .i64 (w64 (k74 + 1))) (y_add rfl rfl) ?_
   refine pl_val (.int .i64 (w64 (k74 + 1))) (y_assign rfl) ?_
   refine c_nil ?_
   cases hs
   have hO := hO.fr2
   have hO := hO.drop
   have hO := hO.fr2
   have hO := hO.fr1
   have hO := hO.fr2
   exact ⟨_, d6, d7, d8, k0, fr_ovl 48 ⟨rfl, rfl, rfl, rfl, congrArg (Value.int .i64) hw, trivial⟩, hC, hO, a0, f0, c7⟩
  refine c_condF (congrArg Value.bool e7) ?_
  refine x_start [6, 8] Mx rfl ?_
  have b9 := Chg.drew c5
  generalize World.drew c5 = g9 at b9 ⊢
  have a0 := a0.cn b9
  have a1 := a1.cn b9
  have a3 := a3.ext b9
  have a2 := a2.ext b9
  have hC := hC.ext b9
  have hO := hO.ext b9
  have hS := Chg.refl [] g9
  refine x_p 0 (.pointer (some ⟨a4, 1, none⟩)) rfl (by kernel_rfl)  (fun _ => y_faddr rfl Fa27x1) (fun _ => hS) ?_
  refine x_l 1 (.slice a6 a7 a8) rfl (by kernel_rfl)  (fun w' hw' => y_load rfl ((box_load Ag25 Sz25 a1 [(.int .i64 3)] [(.slice a6 a7 a8)] [] rfl rfl (fun _ => rfl)) w' hw')) hS ?_
  refine x_p 2 (.slice c1 c2 c3) rfl (by kernel_rfl)  (fun _ => y_move rfl) (fun _ => hS) ?_
  obtain ⟨x106, k4, hs⟩ := bind_some hs
  obtain ⟨k5, m9, n0, n1, k6, k7, n2⟩ := os_idx Sl25 Sz3 a2 k4
  refine x_p 3 (.pointer (some ⟨k5, 0 + Int.toNat 2 * 1, none⟩)) rfl (by kernel_rfl)  (fun _ => k6 _ _ _ _ _ _ _ _ _ rfl rfl) (fun _ => hS) ?_
  refine x_l 4 (.int .i64 x106) rfl (by kernel_rfl)  (fun w' hw' => y_load rfl ((at_load_int Ag3 Sz3 k7) w' hw')) hS ?_
  refine x_one (i := 5) (by kernel_rfl) ?_
  obtain ⟨h0, f1, k8, h1, b5, h2⟩ := new_block g9 [(.int .i64 x106)] 3
  refine xk_val (w' := h0) (b := false) (.slice (some ⟨f1, 0, none⟩) 1 1) rfl  (y_bslice rfl (by rw [k8, h1]; kernel_rfl)) rfl (fun _ => hS.ext b5) ?_
  have a0 := a0.cn b5
  have a1 := a1.cn b5
  have a3 := a3.ext b5
  have a2 := a2.ext b5
  have hC := hC.ext b5
  have hO := hO.new1 b5 h1 h2.lt
  have f2 := os_of_box (r := (RT.int .i64)) (M := M) (css := [[(.int .i64 x106)]]) (fps := [([] : List Nat)]) (xs := ([x106] : List Int)) h2 ⟨⟨rfl, rfl⟩, trivial⟩ (Nat.le_of_ble_eq_true rfl) (List.nodup_cons.2 ⟨(fun h => nomatch h), List.nodup_nil⟩)
  have f2 : (RT.os 3 (RT.int .i64)).val M h0 (.slice (some ⟨f1, 0, none⟩) 1 1) [x106] [f1] := f2
  have hS := hS.ext b5
  refine x_one (i := 6) (by kernel_rfl) ?_
  obtain ⟨y111, k9, hs⟩ := bind_some hs
  have hO := hO.fr2
  obtain ⟨e0, e1, e2, l0, l1, l2, c9, l3, d0⟩ := app_os Rw25 k9 a3 f2 hO.inM (fun g hg hq => hO.apart g hq (mem_l hg))
  have e3 := os_block a3
  refine xk_val (w' := l0) (b := true) (.slice e0 e1 e2) rfl  (y_append rfl rfl (l2 _)) rfl (fun h => nomatch h) ?_
  have hO := hO.fr1
  have hO := hO.fr1
  have a0 := a0.ap c9 hO e3 (mem_r (mem_r (mem_r (mem_l (List.mem_singleton.2 rfl)))))
  have a1 := a1.ap c9 hO e3 (mem_r (mem_r (mem_l (List.mem_singleton.2 rfl))))
  have a2 := a2.ma c9 hO e3 (fun _ e => (mem_r (mem_l (e))))
  have hC := hC.st c9 hO e3
  have hO := hO.eat c9 l3 (os_nodup d0) d0.fpl
  refine x_p 7 (.pointer (some ⟨a4, 1, none⟩)) rfl (by kernel_rfl)  (fun _ => y_faddr rfl Fa27x1) (fun h => nomatch h) ?_
  refine x_one (i := 8) (by kernel_rfl) ?_
  obtain ⟨h3, l4, d1, f3⟩ := box_store (P := Try.prog) a1 [(.int .i64 3)] [(.slice a6 a7 a8)] [] [(.slice e0 e1 e2)] rfl rfl (by intro u hu; simp only [List.mem_cons, List.not_mem_nil, or_false] at hu; rcases hu with rfl <;> rfl)
  refine xk_skip (w' := h3) (b := true) rfl (ys_store rfl rfl (l4 _ _ rfl Sz25)) rfl (fun h => nomatch h) ?_
  have hO := hO.fr2
  have a0 := a0.ap d1 hO same_ (mem_r (mem_r (mem_l (List.mem_singleton.2 rfl))))
  have a2 := a2.ma d1 hO same_ (fun _ e => (mem_r (mem_l (e))))
  have d0 := d0.ma d1 hO same_ (fun _ e => (mem_l (e)))
  have hC := hC.st d1 hO same_
  have hO := hO.ext d1
  have f3 : BoxV h3 a4 27 [(.int .i64 3), (.slice e0 e1 e2)] := f3
  refine x_end (by kernel_rfl) ?_
  clear hS
  refine c_region ?_
  refine pl_val (.int .i64 k74) (y_move rfl) ?_
  refine pl_val (.int .i64 (w64 (k74 + 1))) (y_add rfl rfl) ?_
  refine pl_val (.int .i64 (w64 (k74 + 1))) (y_assign rfl) ?_
  refine c_nil ?_
  cases hs
  have hO := hO.fr2
  have hO := hO.drop
  have hO := hO.fr2
  have hO := hO.fr1
  have hO := hO.fr2
  exact ⟨_, e0, e1, e2, l1, fr_ovl 48 ⟨rfl, rfl, rfl, rfl, congrArg (Value.int .i64) hw, trivial⟩, hC, hO, a0, f3, d0⟩
 ·skip
  have hO := hO.fr2
  have hO := hO.fr1
  have hO := hO.fr2
  exact ⟨_, (some ⟨b0, 0, none⟩), 0, 0, ([b0]), fr_ovl 48 ⟨rfl, rfl, rfl, rfl, rfl, trivial⟩, hC, hO, a0, a1, b6⟩
 cases o76 with
 | nx _ => exact True.intro
 | rt r_ =>
  have hs := after_rt hs
  intro l5 d2 hK
  cases hs
  exact hK
 | br s72 =>
  have hs := after_br hs
  rintro l5 a5 ⟨σ, b1, b2, b3, d5, rfl, hC, hO, a0, a1, f4⟩
  refine c_sr ?_
  refine pl_val (.agg #[(.int .i64 3), (.slice b1 b2 b3)]) (y_load rfl ((box_load Ag27 Sz27 a1 [] [(.int .i64 3), (.slice b1 b2 b3)] [] rfl rfl (fun h => nomatch h)) _ (Chg.refl _ _))) ?_
  obtain ⟨h4, l6, e4, f5⟩ := box_store (P := Try.prog) a0 [] [(.int .i64 0), (.slice none 0 0)] [] [(.int .i64 3), (.slice b1 b2 b3)] rfl rfl (by intro u hu; simp only [List.mem_cons, List.not_mem_nil, or_false] at hu; rcases hu with rfl | rfl <;> rfl)
  refine pl_skip (w' := h4) (ys_store rfl rfl (l6 _ _ rfl Sz27)) ?_
  have hO := hO.fr2
  have a1 := a1.ap e4 hO same_ (mem_r (mem_l (List.mem_singleton.2 rfl)))
  have f4 := f4.ma e4 hO same_ (fun _ e => (mem_l (e)))
  have hC := hC.st e4 hO same_
  have hO := hO.ext e4
  have f5 : BoxV h4 a9 27 [(.int .i64 3), (.slice b1 b2 b3)] := f5
  refine c_nil ?_
  refine wp_ret ?_
  cases hs
  have hO := hO.drop
  have hO := hO.fr1
  have hO := hO.drop
  exact ⟨_, a9, b1, b2, b3, d5, fr_ovl 48 ⟨rfl, trivial⟩, f5, hC, f4, hO.top⟩

theorem Bd34 : Bodied Try.prog 34 := bodied Try.func34 (by kernel_rfl) rfl

theorem Bd35 : Bodied Try.prog 35 := bodied Try.func35 (by kernel_rfl) rfl

def k_spec_DiscriminatorOp (M : Nat → Prop) (w0 : World) (r : (Int × (List Int)) × Bool) (a : Act) (w : World) : Prop :=
  ∃ (σ : Nat → Value) (rg2 : Nat) (ra0 : Option Addr) (rn0 rc0 : Nat) (rf0 : List Nat), a = fr 10 (ovl σ [(2, (.pointer (some ⟨rg2, 0, none⟩))), (3, (.bool r.2))]) ∧ BoxV w rg2 27 [(.int .i64 r.1.1), (.slice ra0 rn0 rc0)] ∧ Chg [] w0 w ∧ (RT.os 3 (RT.int .i64)).val M w (.slice ra0 rn0 rc0) r.1.2 rf0 ∧ Own (Nw w0 []) (fun _ => True) w (rf0 ++ ([]))
def s_spec_DiscriminatorOp (n : Int) : Option ((Int × (List Int)) × Bool) :=
  (s_spec_l6Size n).bind fun r3 =>
  (bif (!r3) then some ((0, []), false) else (s_spec_l18Op n false).bind fun r7 =>
  some ((r7.1, r7.2), true))
set_option maxHeartbeats 4000000 in
theorem c_spec_DiscriminatorOp {M : Nat → Prop} {w : World}  (n : Int)  (hM : ∀ g, w.heap.size ≤ g → M g) {r : (Int × (List Int)) × Bool} (hs : s_spec_DiscriminatorOp n = some r) :
    Gives Try.prog 8 [(.int .i64 n)] w (fun v w' => ∃ (ra0 : Option Addr) (rn0 rc0 : Nat) (rf0 : List Nat), v = (.tuple #[(.agg #[(.int .i64 r.1.1), (.slice ra0 rn0 rc0)]), (.bool r.2)]) ∧ Chg [] w w' ∧ (RT.os 3 (RT.int .i64)).val M w' (.slice ra0 rn0 rc0) r.1.2 rf0 ∧ Own (Nw w []) (fun _ => True) w' (rf0 ++ ([]))) := by
 refine calls_fr Try.func8 rfl Try.ntmps8 (Nat.le_of_ble_eq_true rfl) ?_
 have hO := Own.start (N := Nw w []) hM Nw.fut
 have hC := Chg.refl [] w
 unfold s_spec_DiscriminatorOp at hs
 refine wp_mono (Q := KPost (k_spec_DiscriminatorOp M w r)) ?_ (fun e a b2 h => ?_)
 rotate_left
 ·cases e
  case ret =>
   obtain ⟨σ, rg2, ra0, rn0, rc0, rf0, rfl, hbrg2, hrest⟩ := h
   exact ret2x Try.results8 (res_cell rfl (box_load Ag27 Sz27 hbrg2 [] _ [] rfl rfl (fun h => nomatch h))) (res_tmp rfl) ⟨ra0, rn0, rc0, rf0, rfl, hrest⟩
  all_goals exact (h : False).elim
 refine c_sr ?_
 obtain ⟨b2, a1, b9, b3, b4, a0⟩ := new_block w [(.int .i64 0), (.slice none 0 0)] 27
 refine pl_val (w' := b2) (.pointer (some ⟨a1, 0, none⟩)) (y_alloc (by rw [b9, b3]; kernel_rfl)) ?_
 have hC := hC.ext b4
 have hO := hO.new1 b4 b3 a0.lt
 refine pl_val (.bool false) (y_assign rfl) ?_
 refine c_nil ?_
 refine c_seq ?_
 refine c_sr ?_
 refine pl_val (.int .i64 n) (y_move rfl) ?_
 obtain ⟨r3, c0, hs⟩ := bind_some hs
 refine pl_call Bd34 rfl (c_spec_l6Size (M := M) n  hO.fut c0) ?_
 rintro _ c5 ⟨rfl, a2⟩
 have a0 := a0.cn a2
 have hC := hC.ext a2
 have hO := hO.ext a2
 refine pl_val (.bool (!r3)) (y_not rfl) ?_
 refine c_nil ?_
 rcases bif_some hs with ⟨a3, hs⟩ | ⟨a3, hs⟩
 ·refine c_condT (congrArg Value.bool a3) ?_
  refine c_sr ?_
  refine pl_val (.agg #[(.int .i64 0), (.slice none 0 0)]) (y_build rfl (by kernel_rfl)) ?_
  obtain ⟨b5, c1, b6, a4⟩ := box_store (P := Try.prog) a0 [] [(.int .i64 0), (.slice none 0 0)] [] [(.int .i64 0), (.slice none 0 0)] rfl rfl (by intro u hu; simp only [List.mem_cons, List.not_mem_nil, or_false] at hu; rcases hu with rfl | rfl <;> rfl)
  refine pl_skip (w' := b5) (ys_store rfl rfl (c1 _ _ rfl Sz27)) ?_
  have hC := hC.st b6 hO same_
  have hO := hO.ext b6
  have a4 : BoxV b5 a1 27 [(.int .i64 0), (.slice none 0 0)] := a4
  refine pl_val (.bool false) (y_assign rfl) ?_
  refine c_nil ?_
  refine wp_ret ?_
  cases hs
  have hO := hO.drop
  have hO := hO.nil
  exact ⟨_, a1, none, 0, 0, [], fr_ovl 10 ⟨rfl, rfl, trivial⟩, a4, hC, os_nil, hO.top⟩
 refine c_condF (congrArg Value.bool a3) ?_
 refine wp_skip ?_
 refine c_sr ?_
 refine pl_val (.int .i64 n) (y_move rfl) ?_
 obtain ⟨r7, c2, hs⟩ := bind_some hs
 refine pl_call Bd35 rfl (c_spec_l18Op (M := M) n false  hO.fut c2) ?_
 rintro _ c6 ⟨a5, a6, a7, b7, rfl, a8, a9, c3⟩
 have a0 := a0.cn a8
 have hC := hC.ext a8
 have hO := Own.join0 hO a8 c3
 have hO := hO.perm (R := b7 ++ (([a1]) ++ ([]))) (by simp)
 obtain ⟨b8, c4, b0, b1⟩ := box_store (P := Try.prog) a0 [] [(.int .i64 0), (.slice none 0 0)] [] [(.int .i64 r7.1), (.slice a5 a6 a7)] rfl rfl (by intro u hu; simp only [List.mem_cons, List.not_mem_nil, or_false] at hu; rcases hu with rfl | rfl <;> rfl)
 refine pl_skip (w' := b8) (ys_store rfl rfl (c4 _ _ rfl Sz27)) ?_
 have hO := hO.fr1
 have a9 := a9.ma b0 hO same_ (fun _ e => (mem_l (e)))
 have hC := hC.st b0 hO same_
 have hO := hO.ext b0
 have b1 : BoxV b8 a1 27 [(.int .i64 r7.1), (.slice a5 a6 a7)] := b1
 refine pl_val (.bool true) (y_assign rfl) ?_
 refine c_nil ?_
 refine wp_ret ?_
 cases hs
 have hO := hO.drop
 exact ⟨_, a1, a5, a6, a7, b7, fr_ovl 10 ⟨rfl, rfl, trivial⟩, b1, hC, a9, hO.top⟩

def k_laws_vInts (M : Nat → Prop) (w0 : World) (r : Bool) (a : Act) (w : World) : Prop :=
  ∃ (σ : Nat → Value) , a = fr 26 (ovl σ [(4, (.bool r))]) ∧ Chg [] w0 w
def s_laws_vInts (a_ : List Int) (b : List Int) : Option (Bool) :=
  (bif ((a_.length : Int) != (b.length : Int)) then some false else (forC (S := Unit) (R := Bool) (fun k12 s10 =>
  (idx a_ k12).bind fun x17 =>
  (idx b k12).bind fun x19 =>
  (bif (x17 != x19) then some (.rt false) else some (.nx ()))) 0 (a_.length : Int) ()).bind fun o14 => after o14 (fun r_ => some r_) (fun s10 =>
  some true))
set_option maxHeartbeats 4000000 in
theorem c_laws_vInts {M : Nat → Prop} {w : World} {pa0 : Option Addr} {pn0 pc0 : Nat} {pa1 : Option Addr} {pn1 pc1 : Nat} (a_ : List Int) (b : List Int) (h0 : (RT.rs (RT.int .i64)).val M w (.slice pa0 pn0 pc0) a_ ([])) (h1 : (RT.rs (RT.int .i64)).val M w (.slice pa1 pn1 pc1) b ([])) (hM : ∀ g, w.heap.size ≤ g → M g) {r : Bool} (hs : s_laws_vInts a_ b = some r) :
    Gives Try.prog 22 [(.slice pa0 pn0 pc0), (.slice pa1 pn1 pc1)] w (fun v w' => v = (.bool r) ∧ Chg [] w w') := by
 refine calls_fr Try.func22 rfl Try.ntmps22 (Nat.le_of_ble_eq_true rfl) ?_
 have hO := Own.start (N := Nw w []) hM Nw.fut
 have hC := Chg.refl [] w
 unfold s_laws_vInts at hs
 refine wp_mono (Q := KPost (k_laws_vInts M w r)) ?_ (fun e a a4 h => ?_)
 rotate_left
 ·cases e
  case ret =>
   obtain ⟨σ, rfl, hrest⟩ := h
   exact ret1x Try.results22 (res_tmp rfl) ⟨rfl, hrest⟩
  all_goals exact (h : False).elim
 refine c_sr ?_
 refine pl_val (.bool false) (y_assign rfl) ?_
 refine c_nil ?_
 refine c_seq ?_
 refine c_sr ?_
 refine pl_val (.slice pa0 pn0 pc0) (y_move rfl) ?_
 refine pl_val (.int .i64 (a_.length : Int)) (y_len' Sl25 (rs_len h0) rfl) ?_
 refine pl_val (.slice pa1 pn1 pc1) (y_move rfl) ?_
 refine pl_val (.int .i64 (b.length : Int)) (y_len' Sl25 (rs_len h1) rfl) ?_
 refine pl_val (.bool ((a_.length : Int) != (b.length : Int))) (y_neq rfl rfl) ?_
 refine c_nil ?_
 rcases bif_some hs with ⟨a2, hs⟩ | ⟨a2, hs⟩
 ·refine c_condT (congrArg Value.bool a2) ?_
  refine c_sr ?_
  refine pl_val (.bool false) (y_assign rfl) ?_
  refine c_nil ?_
  refine wp_ret ?_
  cases hs
  exact ⟨_, fr_ovl 26 ⟨rfl, trivial⟩, hC⟩
 refine c_condF (congrArg Value.bool a2) ?_
 refine wp_skip ?_
 refine c_seq ?_
 refine c_sr ?_
 refine pl_val (.int .i64 0) (y_assign rfl) ?_
 refine c_nil ?_
 obtain ⟨o14, a5, hs⟩ := bind_some hs
 refine wp_block ?_
 refine wp_forC (id := 0) (a_.length : Int) (I := fun k12 s10 a a0 => ∃ (σ : Nat → Value), a = fr 26 (ovl σ [(0, (.slice pa0 pn0 pc0)), (1, (.slice pa1 pn1 pc1)), (5, (.int .i64 k12))]) ∧ Chg [] w a0 ∧ Own (Nw w []) M a0 ([]) ∧ (RT.rs (RT.int .i64)).val M a0 (.slice pa0 pn0 pc0) a_ ([]) ∧ (RT.rs (RT.int .i64)).val M a0 (.slice pa1 pn1 pc1) b ([])) (J := fun s10 a a0 => ∃ (σ : Nat → Value), a = fr 26 (ovl σ []) ∧ Chg [] w a0 ∧ Own (Nw w []) M a0 ([]) ∧ (RT.rs (RT.int .i64)).val M a0 (.slice pa0 pn0 pc0) a_ ([]) ∧ (RT.rs (RT.int .i64)).val M a0 (.slice pa1 pn1 pc1) b ([])) (K := (k_laws_vInts M w)) ?_ ?_ 0 () o14 _ _ ?_ a5 ?_
 ·rintro k12 s10 a a0 ⟨σ, rfl, hC, hO, h0, h1⟩ hlt
  refine c_seq ?_
  refine c_sr ?_
  refine pl_val (.int .i64 k12) (y_move rfl) ?_
  refine pl_val (.slice pa0 pn0 pc0) (y_move rfl) ?_
  refine pl_val (.int .i64 (a_.length : Int)) (y_len' Sl25 (rs_len h0) rfl) ?_
  refine pl_val (.bool (decide (k12 < (a_.length : Int)))) (y_lss rfl rfl) ?_
  refine c_nil ?_
  refine c_condF (congrArg Value.bool (decide_eq_false hlt)) ?_
  refine wp_exit ?_
  exact ⟨rfl, _, fr_ovl 26 trivial, hC, hO, h0, h1⟩
 ·rintro k12 s10 o14 a a0 ⟨σ, rfl, hC, hO, h0, h1⟩ hlt hw hs
  refine c_seq ?_
  refine c_sr ?_
  refine pl_val (.int .i64 k12) (y_move rfl) ?_
  refine pl_val (.slice pa0 pn0 pc0) (y_move rfl) ?_
  refine pl_val (.int .i64 (a_.length : Int)) (y_len' Sl25 (rs_len h0) rfl) ?_
  refine pl_val (.bool (decide (k12 < (a_.length : Int)))) (y_lss rfl rfl) ?_
  refine c_nil ?_
  refine c_condT (congrArg Value.bool (decide_eq_true hlt)) ?_
  refine wp_skip ?_
  refine c_seq ?_
  refine wp_block ?_
  refine c_seq ?_
  refine x_start [] Mx rfl ?_
  have a1 := Chg.drew a0
  generalize World.drew a0 = a6 at a1 ⊢
  have h0 := h0.ext a1
  have h1 := h1.ext a1
  have hC := hC.ext a1
  have hO := hO.ext a1
  have hS := Chg.refl [] a6
  refine x_p 0 (.slice pa0 pn0 pc0) rfl (by kernel_rfl)  (fun _ => y_move rfl) (fun _ => hS) ?_
  refine x_p 1 (.int .i64 k12) rfl (by kernel_rfl)  (fun _ => y_move rfl) (fun _ => hS) ?_
  obtain ⟨x17, a7, hs⟩ := bind_some hs
  obtain ⟨a8, a9, b0, b1⟩ := rs_idx Sl25 Sz3 h0 a7
  refine x_p 2 (.pointer (some ⟨a8, a9, none⟩)) rfl (by kernel_rfl)  (fun _ => b0 _ _ _ _ _ _ _ _ _ rfl rfl) (fun _ => hS) ?_
  refine x_l 3 (.int .i64 x17) rfl (by kernel_rfl)  (fun w' hw' => y_load rfl ((at_load_int Ag3 Sz3 b1) w' hw')) hS ?_
  refine x_p 4 (.slice pa1 pn1 pc1) rfl (by kernel_rfl)  (fun _ => y_move rfl) (fun _ => hS) ?_
  refine x_p 5 (.int .i64 k12) rfl (by kernel_rfl)  (fun _ => y_move rfl) (fun _ => hS) ?_
  obtain ⟨x19, b2, hs⟩ := bind_some hs
  obtain ⟨b3, b4, b5, b6⟩ := rs_idx Sl25 Sz3 h1 b2
  refine x_p 6 (.pointer (some ⟨b3, b4, none⟩)) rfl (by kernel_rfl)  (fun _ => b5 _ _ _ _ _ _ _ _ _ rfl rfl) (fun _ => hS) ?_
  refine x_l 7 (.int .i64 x19) rfl (by kernel_rfl)  (fun w' hw' => y_load rfl ((at_load_int Ag3 Sz3 b6) w' hw')) hS ?_
  refine x_p 8 (.bool (x17 != x19)) rfl (by kernel_rfl)  (fun _ => y_neq rfl rfl) (fun _ => hS) ?_
  refine x_end (by kernel_rfl) ?_
  clear hS
  rcases bif_some hs with ⟨a3, hs⟩ | ⟨a3, hs⟩
  ·refine c_condT (congrArg Value.bool a3) ?_
   refine c_sr ?_
   refine pl_val (.bool false) (y_assign rfl) ?_
   refine c_nil ?_
   refine wp_ret ?_
   cases hs
   exact ⟨_, fr_ovl 26 ⟨rfl, trivial⟩, hC⟩
  refine c_condF (congrArg Value.bool a3) ?_
  refine wp_skip ?_
  refine c_region ?_
  refine pl_val (.int .i64 k12) (y_move rfl) ?_
  refine pl_val (.int .i64 (w64 (k12 + 1))) (y_add rfl rfl) ?_
  refine pl_val (.int .i64 (w64 (k12 + 1))) (y_assign rfl) ?_
  refine c_nil ?_
  cases hs
  exact ⟨_, fr_ovl 26 ⟨rfl, rfl, congrArg (Value.int .i64) hw, trivial⟩, hC, hO, h0, h1⟩
 ·skip
  exact ⟨_, fr_ovl 26 ⟨rfl, rfl, rfl, trivial⟩, hC, hO, h0, h1⟩
 cases o14 with
 | nx _ => exact True.intro
 | rt r_ =>
  have hs := after_rt hs
  intro b7 a4 hK
  cases hs
  exact hK
 | br s10 =>
  have hs := after_br hs
  rintro b7 a0 ⟨σ, rfl, hC, hO, h0, h1⟩
  refine c_sr ?_
  refine pl_val (.bool true) (y_assign rfl) ?_
  refine c_nil ?_
  refine wp_ret ?_
  cases hs
  exact ⟨_, fr_ovl 26 ⟨rfl, trivial⟩, hC⟩

theorem Fa27x0 : ∀ (a : Addr) (w : World), (Instr.fieldAt 27 (.pointer (some a)) 0).run Try.prog w = .ok (.pointer (some (a.add 0))) w := fun _ _ => by kernel_rfl

theorem Bd22 : Bodied Try.prog 22 := bodied Try.func22 (by kernel_rfl) rfl

def k_laws_vOp (M : Nat → Prop) (w0 : World) (r : Bool) (a : Act) (w : World) : Prop :=
  ∃ (σ : Nat → Value) , a = fr 17 (ovl σ [(4, (.bool r))]) ∧ Chg [] w0 w
def s_laws_vOp (f : Int × (List Int)) (g : Int × (List Int)) : Option (Bool) :=
  (bif (f.1 == g.1) then (s_laws_vInts f.2 g.2).bind fun r7 =>
  some r7 else some false)
set_option maxHeartbeats 4000000 in
theorem c_laws_vOp {M : Nat → Prop} {w : World} {pa0 : Option Addr} {pn0 pc0 : Nat} {pa1 : Option Addr} {pn1 pc1 : Nat} (f : Int × (List Int)) (g : Int × (List Int)) (h0 : (RT.rs (RT.int .i64)).val M w (.slice pa0 pn0 pc0) f.2 ([])) (h1 : (RT.rs (RT.int .i64)).val M w (.slice pa1 pn1 pc1) g.2 ([])) (hM : ∀ g, w.heap.size ≤ g → M g) {r : Bool} (hs : s_laws_vOp f g = some r) :
    Gives Try.prog 9 [(.agg #[(.int .i64 f.1), (.slice pa0 pn0 pc0)]), (.agg #[(.int .i64 g.1), (.slice pa1 pn1 pc1)])] w (fun v w' => v = (.bool r) ∧ Chg [] w w') := by
 refine calls_fr Try.func9 rfl Try.ntmps9 (Nat.le_of_ble_eq_true rfl) ?_
 have hO := Own.start (N := Nw w []) hM Nw.fut
 have hC := Chg.refl [] w
 unfold s_laws_vOp at hs
 refine wp_mono (Q := KPost (k_laws_vOp M w r)) ?_ (fun e a b5 h => ?_)
 rotate_left
 ·cases e
  case ret =>
   obtain ⟨σ, rfl, hrest⟩ := h
   exact ret1x Try.results9 (res_tmp rfl) ⟨rfl, hrest⟩
  all_goals exact (h : False).elim
 refine c_sr ?_
 obtain ⟨a8, a6, b1, a9, a5, a1⟩ := new_block w [(.int .i64 f.1), (.slice pa0 pn0 pc0)] 27
 refine pl_val (w' := a8) (.pointer (some ⟨a6, 0, none⟩)) (y_box rfl (by rw [b1, a9]; kernel_rfl)) ?_
 have h0 := h0.ext a5
 have h1 := h1.ext a5
 have hC := hC.ext a5
 have hO := hO.new1 a5 a9 a1.lt
 obtain ⟨b2, a7, b3, b0, a3, a4⟩ := new_block a8 [(.int .i64 g.1), (.slice pa1 pn1 pc1)] 27
 refine pl_val (w' := b2) (.pointer (some ⟨a7, 0, none⟩)) (y_box rfl (by rw [b3, b0]; kernel_rfl)) ?_
 have h0 := h0.ext a3
 have h1 := h1.ext a3
 have a1 := a1.cn a3
 have hC := hC.ext a3
 have hO := hO.new1 a3 b0 a4.lt
 refine pl_val (.bool false) (y_assign rfl) ?_
 refine c_nil ?_
 refine c_sr ?_
 refine pl_val (.pointer (some ⟨a6, 0, none⟩)) (y_faddr rfl Fa27x0) ?_
 refine pl_val (.int .i64 f.1) (y_load rfl ((box_load Ag3 Sz3 a1 [] [(.int .i64 f.1)] [(.slice pa0 pn0 pc0)] rfl rfl (fun _ => rfl)) _ (Chg.refl _ _))) ?_
 refine pl_val (.pointer (some ⟨a7, 0, none⟩)) (y_faddr rfl Fa27x0) ?_
 refine pl_val (.int .i64 g.1) (y_load rfl ((box_load Ag3 Sz3 a4 [] [(.int .i64 g.1)] [(.slice pa1 pn1 pc1)] rfl rfl (fun _ => rfl)) _ (Chg.refl _ _))) ?_
 refine pl_val (.bool (f.1 == g.1)) (y_eql rfl rfl) ?_
 refine pl_val (.bool (f.1 == g.1)) (y_move rfl) ?_
 rcases bif_some hs with ⟨a0, hs⟩ | ⟨a0, hs⟩
 ·skip
  refine pl_yes (.pointer (some ⟨a6, 1, none⟩)) (tg := 10) (by kernel_rfl) (congrArg Value.bool a0) (y_faddr rfl Fa27x1) ?_
  refine pl_yes (.slice pa0 pn0 pc0) (tg := 10) (by kernel_rfl) (congrArg Value.bool a0) (y_load rfl ((box_load Ag25 Sz25 a1 [(.int .i64 f.1)] [(.slice pa0 pn0 pc0)] [] rfl rfl (fun _ => rfl)) _ (Chg.refl _ _))) ?_
  refine pl_yes (.pointer (some ⟨a7, 1, none⟩)) (tg := 10) (by kernel_rfl) (congrArg Value.bool a0) (y_faddr rfl Fa27x1) ?_
  refine pl_yes (.slice pa1 pn1 pc1) (tg := 10) (by kernel_rfl) (congrArg Value.bool a0) (y_load rfl ((box_load Ag25 Sz25 a4 [(.int .i64 g.1)] [(.slice pa1 pn1 pc1)] [] rfl rfl (fun _ => rfl)) _ (Chg.refl _ _))) ?_
  obtain ⟨r7, b4, hs⟩ := bind_some hs
  refine pl_cally (tg := 10) (by kernel_rfl) (congrArg Value.bool a0) Bd22 rfl (c_laws_vInts (M := M) f.2 g.2 h0 h1 hO.fut b4) ?_
  rintro _ b6 ⟨rfl, a2⟩
  have h0 := h0.ext a2
  have h1 := h1.ext a2
  have a1 := a1.cn a2
  have a4 := a4.cn a2
  have hC := hC.ext a2
  have hO := hO.ext a2
  refine pl_val (.bool r7) (y_pick_t (congrArg Value.bool a0) rfl) ?_
  refine pl_val (.bool r7) (y_assign rfl) ?_
  refine c_nil ?_
  have hO := hO.drop
  have hO := hO.drop
  refine wp_ret ?_
  cases hs
  exact ⟨_, fr_ovl 17 ⟨rfl, trivial⟩, hC⟩
 refine pl_not (tg := 10) (by kernel_rfl) (congrArg Value.bool a0) ?_
 refine pl_not (tg := 10) (by kernel_rfl) (congrArg Value.bool a0) ?_
 refine pl_not (tg := 10) (by kernel_rfl) (congrArg Value.bool a0) ?_
 refine pl_not (tg := 10) (by kernel_rfl) (congrArg Value.bool a0) ?_
 refine pl_not (tg := 10) (by kernel_rfl) (congrArg Value.bool a0) ?_
 refine pl_val (.bool false) (y_pick_f (congrArg Value.bool a0) rfl) ?_
 refine pl_val (.bool false) (y_assign rfl) ?_
 refine c_nil ?_
 have hO := hO.drop
 have hO := hO.drop
 refine wp_ret ?_
 cases hs
 exact ⟨_, fr_ovl 17 ⟨rfl, trivial⟩, hC⟩

def k_impl_DualDiscriminatorOp_1 (M : Nat → Prop) (w0 : World) (r : Int) (a : Act) (w : World) : Prop :=
  ∃ (σ : Nat → Value) , a = fr 12 (ovl σ [(6, (.int .i64 r))]) ∧ Chg [] w0 w
def s_impl_DualDiscriminatorOp_1 (x_ : Int) (y : Int) (z : Int) : Option (Int) :=
  (bif (x_ == y) then some x_ else some z)
set_option maxHeartbeats 4000000 in
theorem c_impl_DualDiscriminatorOp_1 {M : Nat → Prop} {w : World}  (x_ : Int) (y : Int) (z : Int)  (hM : ∀ g, w.heap.size ≤ g → M g) {r : Int} (hs : s_impl_DualDiscriminatorOp_1 x_ y z = some r) :
    Gives Try.prog 37 [(.int .i64 x_), (.int .i64 y), (.int .i64 z)] w (fun v w' => v = (.int .i64 r) ∧ Chg [] w w') := by
 refine calls_fr Try.func37 rfl Try.ntmps37 (Nat.le_of_ble_eq_true rfl) ?_
 have hO := Own.start (N := Nw w []) hM Nw.fut
 have hC := Chg.refl [] w
 unfold s_impl_DualDiscriminatorOp_1 at hs
 refine wp_mono (Q := KPost (k_impl_DualDiscriminatorOp_1 M w r)) ?_ (fun e a a1 h => ?_)
 rotate_left
 ·cases e
  case ret =>
   obtain ⟨σ, rfl, hrest⟩ := h
   exact ret1x Try.results37 (res_tmp rfl) ⟨rfl, hrest⟩
  all_goals exact (h : False).elim
 refine c_sr ?_
 refine pl_val (.int .i64 0) (y_assign rfl) ?_
 refine c_nil ?_
 refine c_seq ?_
 refine c_sr ?_
 refine pl_val (.int .i64 x_) (y_move rfl) ?_
 refine pl_val (.int .i64 y) (y_move rfl) ?_
 refine pl_val (.bool (x_ == y)) (y_eql rfl rfl) ?_
 refine c_nil ?_
 rcases bif_some hs with ⟨a0, hs⟩ | ⟨a0, hs⟩
 ·refine c_condT (congrArg Value.bool a0) ?_
  refine c_sr ?_
  refine pl_val (.int .i64 x_) (y_move rfl) ?_
  refine pl_val (.int .i64 x_) (y_assign rfl) ?_
  refine c_nil ?_
  refine wp_ret ?_
  cases hs
  exact ⟨_, fr_ovl 12 ⟨rfl, trivial⟩, hC⟩
 refine c_condF (congrArg Value.bool a0) ?_
 refine wp_skip ?_
 refine c_sr ?_
 refine pl_val (.int .i64 z) (y_move rfl) ?_
 refine pl_val (.int .i64 z) (y_assign rfl) ?_
 refine c_nil ?_
 refine wp_ret ?_
 cases hs
 exact ⟨_, fr_ovl 12 ⟨rfl, trivial⟩, hC⟩

theorem Bd37 : Bodied Try.prog 37 := bodied Try.func37 (by kernel_rfl) rfl

def k_impl_ternary__impl_DualDiscriminatorOp_1 (M : Nat → Prop) (w0 : World) (r : (Int × (List Int))) (a : Act) (w : World) : Prop :=
  ∃ (σ : Nat → Value) (rg4 : Nat) (ra0 : Option Addr) (rn0 rc0 : Nat) (rf0 : List Nat), a = fr 38 (ovl σ [(4, (.pointer (some ⟨rg4, 0, none⟩)))]) ∧ BoxV w rg4 27 [(.int .i64 r.1), (.slice ra0 rn0 rc0)] ∧ Chg [] w0 w ∧ (RT.os 3 (RT.int .i64)).val M w (.slice ra0 rn0 rc0) r.2 rf0 ∧ Own (Nw w0 []) (fun _ => True) w (rf0 ++ ([]))
def s_impl_ternary__impl_DualDiscriminatorOp_1 (n : Int) : Option ((Int × (List Int))) :=
  (forC (S := (List Int)) (R := (Int × (List Int))) (fun k71 s69 =>
  (nz n).bind fun u80 =>
  (nz n).bind fun u81 =>
  (nz n).bind fun u82 =>
  (nz n).bind fun u83 =>
  (nz n).bind fun u84 =>
  (s_impl_DualDiscriminatorOp_1 (w64 (Int.tdiv (w64 (Int.tdiv k71 n)) n)) (Int.tmod (w64 (Int.tdiv k71 n)) n) (Int.tmod k71 n)).bind fun r86 =>
  (app s69 ([r86])).bind fun y90 =>
  some (.nx y90)) 0 (w64 ((w64 (n * n)) * n)) ([])).bind fun o73 => after o73 (fun r_ => some r_) (fun s69 =>
  some (3, s69))
set_option maxHeartbeats 4000000 in
theorem c_impl_ternary__impl_DualDiscriminatorOp_1 {M : Nat → Prop} {w : World}  (n : Int)  (hM : ∀ g, w.heap.size ≤ g → M g) {r : (Int × (List Int))} (hs : s_impl_ternary__impl_DualDiscriminatorOp_1 n = some r) :
    Gives Try.prog 36 [(.int .i64 n), (.func (.func 37) #[] #[])] w (fun v w' => ∃ (ra0 : Option Addr) (rn0 rc0 : Nat) (rf0 : List Nat), v = (.agg #[(.int .i64 r.1), (.slice ra0 rn0 rc0)]) ∧ Chg [] w w' ∧ (RT.os 3 (RT.int .i64)).val M w' (.slice ra0 rn0 rc0) r.2 rf0 ∧ Own (Nw w []) (fun _ => True) w' (rf0 ++ ([]))) := by
 refine calls_fr Try.func36 rfl Try.ntmps36 (Nat.le_of_ble_eq_true rfl) ?_
 have hO := Own.start (N := Nw w []) hM Nw.fut
 have hC := Chg.refl [] w
 unfold s_impl_ternary__impl_DualDiscriminatorOp_1 at hs
 refine wp_mono (Q := KPost (k_impl_ternary__impl_DualDiscriminatorOp_1 M w r)) ?_ (fun e a c3 h => ?_)
 rotate_left
 ·cases e
  case ret =>
   obtain ⟨σ, rg4, ra0, rn0, rc0, rf0, rfl, hbrg4, hrest⟩ := h
   exact ret1x Try.results36 (res_cell rfl (box_load Ag27 Sz27 hbrg4 [] _ [] rfl rfl (fun h => nomatch h))) ⟨ra0, rn0, rc0, rf0, rfl, hrest⟩
  all_goals exact (h : False).elim
 refine c_sr ?_
 obtain ⟨c3, a8, h7, f8, f9, a0⟩ := new_block w [(.int .i64 0), (.slice none 0 0)] 27
 refine pl_val (w' := c3) (.pointer (some ⟨a8, 0, none⟩)) (y_alloc (by rw [h7, f8]; kernel_rfl)) ?_
 have hC := hC.ext f9
 have hO := hO.new1 f9 f8 a0.lt
 refine c_nil ?_
 refine c_sr ?_
 refine pl_val (.agg #[(.int .i64 3), (.slice none 0 0)]) (y_build rfl (by kernel_rfl)) ?_
 obtain ⟨h8, a4, h9, g0, e1, g1⟩ := new_block c3 [(.int .i64 0), (.slice none 0 0)] 27
 refine pl_val (w' := h8) (.pointer (some ⟨a4, 0, none⟩)) (y_alloc (by rw [h9, g0]; kernel_rfl)) ?_
 have a0 := a0.cn e1
 have hC := hC.ext e1
 have hO := hO.new1 e1 g0 g1.lt
 obtain ⟨g2, i0, e2, a1⟩ := box_store (P := Try.prog) g1 [] [(.int .i64 0), (.slice none 0 0)] [] [(.int .i64 3), (.slice none 0 0)] rfl rfl (by intro u hu; simp only [List.mem_cons, List.not_mem_nil, or_false] at hu; rcases hu with rfl | rfl <;> rfl)
 refine pl_skip (w' := g2) (ys_store rfl rfl (i0 _ _ rfl Sz27)) ?_
 have a0 := a0.ap e2 hO same_ (mem_l (List.mem_singleton.2 rfl))
 have hC := hC.st e2 hO same_
 have hO := hO.ext e2
 have a1 : BoxV g2 a4 27 [(.int .i64 3), (.slice none 0 0)] := a1
 refine c_nil ?_
 refine c_seq ?_
 refine c_sr ?_
 refine pl_val (.int .i64 0) (y_assign rfl) ?_
 refine c_nil ?_
 obtain ⟨o73, i1, hs⟩ := bind_some hs
 refine wp_block ?_
 refine wp_forC (id := 0) (w64 ((w64 (n * n)) * n)) (I := fun k71 s69 a a3 => ∃ (σ : Nat → Value) (a5 : Option Addr) (a6 : Nat) (a7 : Nat) (b3 : List Nat), a = fr 38 (ovl σ [(0, (.int .i64 n)), (1, (.func (.func 37) #[] #[])), (4, (.pointer (some ⟨a8, 0, none⟩))), (5, (.pointer (some ⟨a4, 0, none⟩))), (6, (.int .i64 k71))]) ∧ Chg [] w a3 ∧ Own (Nw w []) M a3 (b3 ++ (([a4]) ++ (([a8]) ++ []))) ∧ BoxV a3 a8 27 [(.int .i64 0), (.slice none 0 0)] ∧ BoxV a3 a4 27 [(.int .i64 3), (.slice a5 a6 a7)] ∧ (RT.os 3 (RT.int .i64)).val M a3 (.slice a5 a6 a7) s69 b3) (J := fun s69 a a3 => ∃ (σ : Nat → Value) (a9 : Option Addr) (b0 : Nat) (b1 : Nat) (c4 : List Nat), a = fr 38 (ovl σ [(4, (.pointer (some ⟨a8, 0, none⟩))), (5, (.pointer (some ⟨a4, 0, none⟩)))]) ∧ Chg [] w a3 ∧ Own (Nw w []) M a3 (c4 ++ (([a4]) ++ (([a8]) ++ []))) ∧ BoxV a3 a8 27 [(.int .i64 0), (.slice none 0 0)] ∧ BoxV a3 a4 27 [(.int .i64 3), (.slice a9 b0 b1)] ∧ (RT.os 3 (RT.int .i64)).val M a3 (.slice a9 b0 b1) s69 c4) (K := (k_impl_ternary__impl_DualDiscriminatorOp_1 M w)) ?_ ?_ 0 ([]) o73 _ _ ?_ i1 ?_
 ·rintro k71 s69 a a3 ⟨σ, a5, a6, a7, b3, rfl, hC, hO, a0, a1, a2⟩ hlt
  refine c_seq ?_
  refine c_sr ?_
  refine pl_val (.int .i64 k71) (y_move rfl) ?_
  refine pl_val (.int .i64 n) (y_move rfl) ?_
  refine pl_val (.int .i64 n) (y_move rfl) ?_
  refine pl_val (.int .i64 (w64 (n * n))) (y_mul rfl rfl) ?_
  refine pl_val (.int .i64 n) (y_move rfl) ?_
  refine pl_val (.int .i64 (w64 ((w64 (n * n)) * n))) (y_mul rfl rfl) ?_
  refine pl_val (.bool (decide (k71 < (w64 ((w64 (n * n)) * n))))) (y_lss rfl rfl) ?_
  refine c_nil ?_
  refine c_condF (congrArg Value.bool (decide_eq_false hlt)) ?_
  refine wp_exit ?_
  have hO := hO.fr2
  have hO := hO.fr2
  have hO := hO.fr2
  exact ⟨rfl, _, a5, a6, a7, b3, fr_ovl 38 ⟨rfl, rfl, trivial⟩, hC, hO, a0, a1, a2⟩
 ·rintro k71 s69 o73 a a3 ⟨σ, a5, a6, a7, b3, rfl, hC, hO, a0, a1, a2⟩ hlt hw hs
  refine c_seq ?_
  refine c_sr ?_
  refine pl_val (.int .i64 k71) (y_move rfl) ?_
  refine pl_val (.int .i64 n) (y_move rfl) ?_
  refine pl_val (.int .i64 n) (y_move rfl) ?_
  refine pl_val (.int .i64 (w64 (n * n))) (y_mul rfl rfl) ?_
  refine pl_val (.int .i64 n) (y_move rfl) ?_
  refine pl_val (.int .i64 (w64 ((w64 (n * n)) * n))) (y_mul rfl rfl) ?_
  refine pl_val (.bool (decide (k71 < (w64 ((w64 (n * n)) * n))))) (y_lss rfl rfl) ?_
  refine c_nil ?_
  refine c_condT (congrArg Value.bool (decide_eq_true hlt)) ?_
  refine wp_skip ?_
  refine c_seq ?_
  refine wp_block ?_
  refine x_start [16, 18, 20] Mx rfl ?_
  have b2 := Chg.drew a3
  generalize World.drew a3 = i2 at b2 ⊢
  have a0 := a0.cn b2
  have a1 := a1.cn b2
  have a2 := a2.ext b2
  have hC := hC.ext b2
  have hO := hO.ext b2
  have hS := Chg.refl [] i2
  refine x_p 0 (.pointer (some ⟨a4, 1, none⟩)) rfl (by kernel_rfl)  (fun _ => y_faddr rfl Fa27x1) (fun _ => hS) ?_
  refine x_p 2 (.func (.func 37) #[] #[]) rfl (by kernel_rfl)  (fun _ => y_move rfl) (fun _ => hS) ?_
  refine x_p 3 (.int .i64 k71) rfl (by kernel_rfl)  (fun _ => y_move rfl) (fun _ => hS) ?_
  refine x_p 4 (.int .i64 n) rfl (by kernel_rfl)  (fun _ => y_move rfl) (fun _ => hS) ?_
  obtain ⟨u80, i3, hs⟩ := bind_some hs
  refine x_p 5 (.int .i64 (w64 (Int.tdiv k71 n))) rfl (by kernel_rfl)  (fun _ => y_quo rfl rfl (nz_ne i3)) (fun _ => hS) ?_
  refine x_p 6 (.int .i64 n) rfl (by kernel_rfl)  (fun _ => y_move rfl) (fun _ => hS) ?_
  obtain ⟨u81, i4, hs⟩ := bind_some hs
  refine x_p 7 (.int .i64 (w64 (Int.tdiv (w64 (Int.tdiv k71 n)) n))) rfl (by kernel_rfl)  (fun _ => y_quo rfl rfl (nz_ne i4)) (fun _ => hS) ?_
  refine x_p 8 (.int .i64 k71) rfl (by kernel_rfl)  (fun _ => y_move rfl) (fun _ => hS) ?_
  refine x_p 9 (.int .i64 n) rfl (by kernel_rfl)  (fun _ => y_move rfl) (fun _ => hS) ?_
  obtain ⟨u82, i5, hs⟩ := bind_some hs
  refine x_p 10 (.int .i64 (w64 (Int.tdiv k71 n))) rfl (by kernel_rfl)  (fun _ => y_quo rfl rfl (nz_ne i5)) (fun _ => hS) ?_
  refine x_p 11 (.int .i64 n) rfl (by kernel_rfl)  (fun _ => y_move rfl) (fun _ => hS) ?_
  obtain ⟨u83, i6, hs⟩ := bind_some hs
  refine x_p 12 (.int .i64 (Int.tmod (w64 (Int.tdiv k71 n)) n)) rfl (by kernel_rfl)  (fun _ => y_rem rfl rfl (nz_ne i6)) (fun _ => hS) ?_
  refine x_p 13 (.int .i64 k71) rfl (by kernel_rfl)  (fun _ => y_move rfl) (fun _ => hS) ?_
  refine x_p 14 (.int .i64 n) rfl (by kernel_rfl)  (fun _ => y_move rfl) (fun _ => hS) ?_
  obtain ⟨u84, i7, hs⟩ := bind_some hs
  refine x_p 15 (.int .i64 (Int.tmod k71 n)) rfl (by kernel_rfl)  (fun _ => y_rem rfl rfl (nz_ne i7)) (fun _ => hS) ?_
  refine x_two (i := 1) (j := 16) (by kernel_rfl) ?_ ?_
  ·skip
   refine xk_val (b := false) (.slice a5 a6 a7) rfl  (y_load rfl ((box_load Ag25 Sz25 a1 [(.int .i64 3)] [(.slice a5 a6 a7)] [] rfl rfl (fun _ => rfl)) _ (Chg.refl _ _))) rfl (fun _ => hS) ?_
   refine x_one (i := 16) (by kernel_rfl) ?_
   obtain ⟨r86, e3, hs⟩ := bind_some hs
   refine xk_callv (b := true) rfl  (h := rfl) Bd37 rfl (c_impl_DualDiscriminatorOp_1 (M := M) (w64 (Int.tdiv (w64 (Int.tdiv k71 n)) n)) (Int.tmod (w64 (Int.tdiv k71 n)) n) (Int.tmod k71 n)  hO.fut e3) rfl (fun h => nomatch h) ?_
   rintro _ i9 ⟨rfl, b4⟩
   have a0 := a0.cn b4
   have a1 := a1.cn b4
   have a2 := a2.ext b4
   have hC := hC.ext b4
   have hO := hO.ext b4
   refine x_one (i := 17) (by kernel_rfl) ?_
   obtain ⟨g3, e4, j0, g4, b5, g5⟩ := new_block i9 [(.int .i64 r86)] 3
   refine xk_val (w' := g3) (b := true) (.slice (some ⟨e4, 0, none⟩) 1 1) rfl  (y_bslice rfl (by rw [j0, g4]; kernel_rfl)) rfl (fun h => nomatch h) ?_
   have a0 := a0.cn b5
   have a1 := a1.cn b5
   have a2 := a2.ext b5
   have hC := hC.ext b5
   have hO := hO.new1 b5 g4 g5.lt
   have e5 := os_of_box (r := (RT.int .i64)) (M := M) (css := [[(.int .i64 r86)]]) (fps := [([] : List Nat)]) (xs := ([r86] : List Int)) g5 ⟨⟨rfl, rfl⟩, trivial⟩ (Nat.le_of_ble_eq_true rfl) (List.nodup_cons.2 ⟨(fun h => nomatch h), List.nodup_nil⟩)
   have e5 : (RT.os 3 (RT.int .i64)).val M g3 (.slice (some ⟨e4, 0, none⟩) 1 1) [r86] [e4] := e5
   refine x_one (i := 18) (by kernel_rfl) ?_
   obtain ⟨y90, b6, hs⟩ := bind_some hs
   have hO := hO.fr1
   obtain ⟨c5, c6, c7, j1, j2, j3, c8, j4, b7⟩ := app_os Rw25 b6 a2 e5 hO.inM (fun g hg hq => hO.apart g hq (mem_l hg))
   have e6 := os_block a2
   refine xk_val (w' := j1) (b := true) (.slice c5 c6 c7) rfl  (y_append rfl rfl (j3 _)) rfl (fun h => nomatch h) ?_
   have hO := hO.fr1
   have hO := hO.fr1
   have a0 := a0.ap c8 hO e6 (mem_r (mem_r (mem_l (List.mem_singleton.2 rfl))))
   have a1 := a1.ap c8 hO e6 (mem_r (mem_l (List.mem_singleton.2 rfl)))
   have hC := hC.st c8 hO e6
   have hO := hO.eat c8 j4 (os_nodup b7) b7.fpl
   refine x_p 19 (.pointer (some ⟨a4, 1, none⟩)) rfl (by kernel_rfl)  (fun _ => y_faddr rfl Fa27x1) (fun h => nomatch h) ?_
   refine x_one (i := 20) (by kernel_rfl) ?_
   obtain ⟨g6, j5, c9, e7⟩ := box_store (P := Try.prog) a1 [(.int .i64 3)] [(.slice a5 a6 a7)] [] [(.slice c5 c6 c7)] rfl rfl (by intro u hu; simp only [List.mem_cons, List.not_mem_nil, or_false] at hu; rcases hu with rfl <;> rfl)
   refine xk_skip (w' := g6) (b := true) rfl (ys_store rfl rfl (j5 _ _ rfl Sz25)) rfl (fun h => nomatch h) ?_
   have hO := hO.fr1
   have a0 := a0.ap c9 hO same_ (mem_r (mem_l (List.mem_singleton.2 rfl)))
   have b7 := b7.ma c9 hO same_ (fun _ e => (mem_l (e)))
   have hC := hC.st c9 hO same_
   have hO := hO.ext c9
   have e7 : BoxV g6 a4 27 [(.int .i64 3), (.slice c5 c6 c7)] := e7
   refine x_end (by kernel_rfl) ?_
   clear hS
   refine c_region ?_
   refine pl_val (.int .i64 k71) (y_move rfl) ?_
   refine pl_val (.int .i64 (w64 (k71 + 1))) (y_add rfl rfl) ?_
   refine pl_val (.int .i64 (w64 (k71 + 1))) (y_assign rfl) ?_
   refine c_nil ?_
   cases hs
   have hO := hO.fr2
   have hO := hO.fr1
   have hO := hO.fr2
   exact ⟨_, c5, c6, c7, j2, fr_ovl 38 ⟨rfl, rfl, rfl, rfl, congrArg (Value.int .i64) hw, trivial⟩, hC, hO, a0, e7, b7⟩
  ·skip
   obtain ⟨r86, e3, hs⟩ := bind_some hs
   refine xk_callv (b := true) rfl  (h := rfl) Bd37 rfl (c_impl_DualDiscriminatorOp_1 (M := M) (w64 (Int.tdiv (w64 (Int.tdiv k71 n)) n)) (Int.tmod (w64 (Int.tdiv k71 n)) n) (Int.tmod k71 n)  hO.fut e3) rfl (fun h => nomatch h) ?_
   rintro _ g7 ⟨rfl, b8⟩
   have a0 := a0.cn b8
   have a1 := a1.cn b8
   have a2 := a2.ext b8
   have hC := hC.ext b8
   have hO := hO.ext b8
   refine x_two (i := 1) (j := 17) (by kernel_rfl) ?_ ?_
   ·skip
    refine xk_val (b := true) (.slice a5 a6 a7) rfl  (y_load rfl ((box_load Ag25 Sz25 a1 [(.int .i64 3)] [(.slice a5 a6 a7)] [] rfl rfl (fun _ => rfl)) _ (Chg.refl _ _))) rfl (fun h => nomatch h) ?_
    refine x_one (i := 17) (by kernel_rfl) ?_
    obtain ⟨g8, e8, j6, g9, b9, h0⟩ := new_block g7 [(.int .i64 r86)] 3
    refine xk_val (w' := g8) (b := true) (.slice (some ⟨e8, 0, none⟩) 1 1) rfl  (y_bslice rfl (by rw [j6, g9]; kernel_rfl)) rfl (fun h => nomatch h) ?_
    have a0 := a0.cn b9
    have a1 := a1.cn b9
    have a2 := a2.ext b9
    have hC := hC.ext b9
    have hO := hO.new1 b9 g9 h0.lt
    have e9 := os_of_box (r := (RT.int .i64)) (M := M) (css := [[(.int .i64 r86)]]) (fps := [([] : List Nat)]) (xs := ([r86] : List Int)) h0 ⟨⟨rfl, rfl⟩, trivial⟩ (Nat.le_of_ble_eq_true rfl) (List.nodup_cons.2 ⟨(fun h => nomatch h), List.nodup_nil⟩)
    have e9 : (RT.os 3 (RT.int .i64)).val M g8 (.slice (some ⟨e8, 0, none⟩) 1 1) [r86] [e8] := e9
    refine x_one (i := 18) (by kernel_rfl) ?_
    obtain ⟨y90, b6, hs⟩ := bind_some hs
    have hO := hO.fr1
    obtain ⟨d0, d1, d2, j7, j8, j9, d3, k0, c0⟩ := app_os Rw25 b6 a2 e9 hO.inM (fun g hg hq => hO.apart g hq (mem_l hg))
    have f0 := os_block a2
    refine xk_val (w' := j7) (b := true) (.slice d0 d1 d2) rfl  (y_append rfl rfl (j9 _)) rfl (fun h => nomatch h) ?_
    have hO := hO.fr1
    have hO := hO.fr1
    have a0 := a0.ap d3 hO f0 (mem_r (mem_r (mem_l (List.mem_singleton.2 rfl))))
    have a1 := a1.ap d3 hO f0 (mem_r (mem_l (List.mem_singleton.2 rfl)))
    have hC := hC.st d3 hO f0
    have hO := hO.eat d3 k0 (os_nodup c0) c0.fpl
    refine x_p 19 (.pointer (some ⟨a4, 1, none⟩)) rfl (by kernel_rfl)  (fun _ => y_faddr rfl Fa27x1) (fun h => nomatch h) ?_
    refine x_one (i := 20) (by kernel_rfl) ?_
    obtain ⟨h1, k1, d4, f1⟩ := box_store (P := Try.prog) a1 [(.int .i64 3)] [(.slice a5 a6 a7)] [] [(.slice d0 d1 d2)] rfl rfl (by intro u hu; simp only [List.mem_cons, List.not_mem_nil, or_false] at hu; rcases hu with rfl <;> rfl)
    refine xk_skip (w' := h1) (b := true) rfl (ys_store rfl rfl (k1 _ _ rfl Sz25)) rfl (fun h => nomatch h) ?_
    have hO := hO.fr1
    have a0 := a0.ap d4 hO same_ (mem_r (mem_l (List.mem_singleton.2 rfl)))
    have c0 := c0.ma d4 hO same_ (fun _ e => (mem_l (e)))
    have hC := hC.st d4 hO same_
    have hO := hO.ext d4
    have f1 : BoxV h1 a4 27 [(.int .i64 3), (.slice d0 d1 d2)] := f1
    refine x_end (by kernel_rfl) ?_
    clear hS
    refine c_region ?_
    refine pl_val (.int .i64 k71) (y_move rfl) ?_
    refine pl_val (.int .i64 (w64 (k71 + 1))) (y_add rfl rfl) ?_
    refine pl_val (.int .i64 (w64 (k71 + 1))) (y_assign rfl) ?_
    refine c_nil ?_
    cases hs
    have hO := hO.fr2
    have hO := hO.fr1
    have hO := hO.fr2
    exact ⟨_, d0, d1, d2, j8, fr_ovl 38 ⟨rfl, rfl, rfl, rfl, congrArg (Value.int .i64) hw, trivial⟩, hC, hO, a0, f1, c0⟩
   ·skip
    obtain ⟨h2, f2, k2, h3, c1, h4⟩ := new_block g7 [(.int .i64 r86)] 3
    refine xk_val (w' := h2) (b := true) (.slice (some ⟨f2, 0, none⟩) 1 1) rfl  (y_bslice rfl (by rw [k2, h3]; kernel_rfl)) rfl (fun h => nomatch h) ?_
    have a0 := a0.cn c1
    have a1 := a1.cn c1
    have a2 := a2.ext c1
    have hC := hC.ext c1
    have hO := hO.new1 c1 h3 h4.lt
    have f3 := os_of_box (r := (RT.int .i64)) (M := M) (css := [[(.int .i64 r86)]]) (fps := [([] : List Nat)]) (xs := ([r86] : List Int)) h4 ⟨⟨rfl, rfl⟩, trivial⟩ (Nat.le_of_ble_eq_true rfl) (List.nodup_cons.2 ⟨(fun h => nomatch h), List.nodup_nil⟩)
    have f3 : (RT.os 3 (RT.int .i64)).val M h2 (.slice (some ⟨f2, 0, none⟩) 1 1) [r86] [f2] := f3
    refine x_one (i := 1) (by kernel_rfl) ?_
    refine xk_val (b := true) (.slice a5 a6 a7) rfl  (y_load rfl ((box_load Ag25 Sz25 a1 [(.int .i64 3)] [(.slice a5 a6 a7)] [] rfl rfl (fun _ => rfl)) _ (Chg.refl _ _))) rfl (fun h => nomatch h) ?_
    refine x_one (i := 18) (by kernel_rfl) ?_
    obtain ⟨y90, b6, hs⟩ := bind_some hs
    have hO := hO.fr1
    obtain ⟨d5, d6, d7, k3, k4, k5, d8, k6, c2⟩ := app_os Rw25 b6 a2 f3 hO.inM (fun g hg hq => hO.apart g hq (mem_l hg))
    have f4 := os_block a2
    refine xk_val (w' := k3) (b := true) (.slice d5 d6 d7) rfl  (y_append rfl rfl (k5 _)) rfl (fun h => nomatch h) ?_
    have hO := hO.fr1
    have hO := hO.fr1
    have a0 := a0.ap d8 hO f4 (mem_r (mem_r (mem_l (List.mem_singleton.2 rfl))))
    have a1 := a1.ap d8 hO f4 (mem_r (mem_l (List.mem_singleton.2 rfl)))
    have hC := hC.st d8 hO f4
    have hO := hO.eat d8 k6 (os_nodup c2) c2.fpl
    refine x_p 19 (.pointer (some ⟨a4, 1, none⟩)) rfl (by kernel_rfl)  (fun _ => y_faddr rfl Fa27x1) (fun h => nomatch h) ?_
    refine x_one (i := 20) (by kernel_rfl) ?_
    obtain ⟨h5, k7, d9, f5⟩ := box_store (P := Try.prog) a1 [(.int .i64 3)] [(.slice a5 a6 a7)] [] [(.slice d5 d6 d7)] rfl rfl (by intro u hu; simp only [List.mem_cons, List.not_mem_nil, or_false] at hu; rcases hu with rfl <;> rfl)
    refine xk_skip (w' := h5) (b := true) rfl (ys_store rfl rfl (k7 _ _ rfl Sz25)) rfl (fun h => nomatch h) ?_
    have hO := hO.fr1
    have a0 := a0.ap d9 hO same_ (mem_r (mem_l (List.mem_singleton.2 rfl)))
    have c2 := c2.ma d9 hO same_ (fun _ e => (mem_l (e)))
    have hC := hC.st d9 hO same_
    have hO := hO.ext d9
    have f5 : BoxV h5 a4 27 [(.int .i64 3), (.slice d5 d6 d7)] := f5
    refine x_end (by kernel_rfl) ?_
    clear hS
    refine c_region ?_
    refine pl_val (.int .i64 k71) (y_move rfl) ?_
    refine pl_val (.int .i64 (w64 (k71 + 1))) (y_add rfl rfl) ?_
    refine pl_val (.int .i64 (w64 (k71 + 1))) (y_assign rfl) ?_
    refine c_nil ?_
    cases hs
    have hO := hO.fr2
    have hO := hO.fr1
    have hO := hO.fr2
    exact ⟨_, d5, d6, d7, k4, fr_ovl 38 ⟨rfl, rfl, rfl, rfl, congrArg (Value.int .i64) hw, trivial⟩, hC, hO, a0, f5, c2⟩
 ·skip
  have hO := hO.fr1
  have hO := hO.fr1
  have hO := hO.nil
  exact ⟨_, none, 0, 0, [], fr_ovl 38 ⟨rfl, rfl, rfl, rfl, rfl, trivial⟩, hC, hO, a0, a1, os_nil⟩
 cases o73 with
 | nx _ => exact True.intro
 | rt r_ =>
  have hs := after_rt hs
  intro k8 c3 hK
  cases hs
  exact hK
 | br s69 =>
  have hs := after_br hs
  rintro k8 a3 ⟨σ, a9, b0, b1, c4, rfl, hC, hO, a0, a1, f6⟩
  refine c_sr ?_
  refine pl_val (.agg #[(.int .i64 3), (.slice a9 b0 b1)]) (y_load rfl ((box_load Ag27 Sz27 a1 [] [(.int .i64 3), (.slice a9 b0 b1)] [] rfl rfl (fun h => nomatch h)) _ (Chg.refl _ _))) ?_
  obtain ⟨h6, k9, e0, f7⟩ := box_store (P := Try.prog) a0 [] [(.int .i64 0), (.slice none 0 0)] [] [(.int .i64 3), (.slice a9 b0 b1)] rfl rfl (by intro u hu; simp only [List.mem_cons, List.not_mem_nil, or_false] at hu; rcases hu with rfl | rfl <;> rfl)
  refine pl_skip (w' := h6) (ys_store rfl rfl (k9 _ _ rfl Sz27)) ?_
  have hO := hO.fr2
  have a1 := a1.ap e0 hO same_ (mem_r (mem_l (List.mem_singleton.2 rfl)))
  have f6 := f6.ma e0 hO same_ (fun _ e => (mem_l (e)))
  have hC := hC.st e0 hO same_
  have hO := hO.ext e0
  have f7 : BoxV h6 a8 27 [(.int .i64 3), (.slice a9 b0 b1)] := f7
  refine c_nil ?_
  refine wp_ret ?_
  cases hs
  have hO := hO.drop
  have hO := hO.fr1
  have hO := hO.drop
  exact ⟨_, a8, a9, b0, b1, c4, fr_ovl 38 ⟨rfl, trivial⟩, f7, hC, f6, hO.top⟩

def k_impl_DualDiscriminatorOp (M : Nat → Prop) (w0 : World) (r : (Int × (List Int)) × Bool) (a : Act) (w : World) : Prop :=
  ∃ (σ : Nat → Value) (rg2 : Nat) (ra0 : Option Addr) (rn0 rc0 : Nat) (rf0 : List Nat), a = fr 10 (ovl σ [(2, (.pointer (some ⟨rg2, 0, none⟩))), (3, (.bool r.2))]) ∧ BoxV w rg2 27 [(.int .i64 r.1.1), (.slice ra0 rn0 rc0)] ∧ Chg [] w0 w ∧ (RT.os 3 (RT.int .i64)).val M w (.slice ra0 rn0 rc0) r.1.2 rf0 ∧ Own (Nw w0 []) (fun _ => True) w (rf0 ++ ([]))
def s_impl_DualDiscriminatorOp (n : Int) : Option ((Int × (List Int)) × Bool) :=
  (s_impl_isSize n).bind fun r3 =>
  (bif (!r3) then some ((0, []), false) else (s_impl_ternary__impl_DualDiscriminatorOp_1 n).bind fun r7 =>
  some ((r7.1, r7.2), true))
set_option maxHeartbeats 4000000 in
theorem c_impl_DualDiscriminatorOp {M : Nat → Prop} {w : World}  (n : Int)  (hM : ∀ g, w.heap.size ≤ g → M g) {r : (Int × (List Int)) × Bool} (hs : s_impl_DualDiscriminatorOp n = some r) :
    Gives Try.prog 10 [(.int .i64 n)] w (fun v w' => ∃ (ra0 : Option Addr) (rn0 rc0 : Nat) (rf0 : List Nat), v = (.tuple #[(.agg #[(.int .i64 r.1.1), (.slice ra0 rn0 rc0)]), (.bool r.2)]) ∧ Chg [] w w' ∧ (RT.os 3 (RT.int .i64)).val M w' (.slice ra0 rn0 rc0) r.1.2 rf0 ∧ Own (Nw w []) (fun _ => True) w' (rf0 ++ ([]))) := by
 refine calls_fr Try.func10 rfl Try.ntmps10 (Nat.le_of_ble_eq_true rfl) ?_
 have hO := Own.start (N := Nw w []) hM Nw.fut
 have hC := Chg.refl [] w
 unfold s_impl_DualDiscriminatorOp at hs
 refine wp_mono (Q := KPost (k_impl_DualDiscriminatorOp M w r)) ?_ (fun e a b2 h => ?_)
 rotate_left
 ·cases e
  case ret =>
   obtain ⟨σ, rg2, ra0, rn0, rc0, rf0, rfl, hbrg2, hrest⟩ := h
   exact ret2x Try.results10 (res_cell rfl (box_load Ag27 Sz27 hbrg2 [] _ [] rfl rfl (fun h => nomatch h))) (res_tmp rfl) ⟨ra0, rn0, rc0, rf0, rfl, hrest⟩
  all_goals exact (h : False).elim
 refine c_sr ?_
 obtain ⟨b2, a1, b9, b3, b4, a0⟩ := new_block w [(.int .i64 0), (.slice none 0 0)] 27
 refine pl_val (w' := b2) (.pointer (some ⟨a1, 0, none⟩)) (y_alloc (by rw [b9, b3]; kernel_rfl)) ?_
 have hC := hC.ext b4
 have hO := hO.new1 b4 b3 a0.lt
 refine pl_val (.bool false) (y_assign rfl) ?_
 refine c_nil ?_
 refine c_seq ?_
 refine c_sr ?_
 refine pl_val (.int .i64 n) (y_move rfl) ?_
 obtain ⟨r3, c0, hs⟩ := bind_some hs
 refine pl_call Bd32 rfl (c_impl_isSize (M := M) n  hO.fut c0) ?_
 rintro _ c5 ⟨rfl, a2⟩
 have a0 := a0.cn a2
 have hC := hC.ext a2
 have hO := hO.ext a2
 refine pl_val (.bool (!r3)) (y_not rfl) ?_
 refine c_nil ?_
 rcases bif_some hs with ⟨a3, hs⟩ | ⟨a3, hs⟩
 ·refine c_condT (congrArg Value.bool a3) ?_
  refine c_sr ?_
  refine pl_val (.agg #[(.int .i64 0), (.slice none 0 0)]) (y_build rfl (by kernel_rfl)) ?_
  obtain ⟨b5, c1, b6, a4⟩ := box_store (P := Try.prog) a0 [] [(.int .i64 0), (.slice none 0 0)] [] [(.int .i64 0), (.slice none 0 0)] rfl rfl (by intro u hu; simp only [List.mem_cons, List.not_mem_nil, or_false] at hu; rcases hu with rfl | rfl <;> rfl)
  refine pl_skip (w' := b5) (ys_store rfl rfl (c1 _ _ rfl Sz27)) ?_
  have hC := hC.st b6 hO same_
  have hO := hO.ext b6
  have a4 : BoxV b5 a1 27 [(.int .i64 0), (.slice none 0 0)] := a4
  refine pl_val (.bool false) (y_assign rfl) ?_
  refine c_nil ?_
  refine wp_ret ?_
  cases hs
  have hO := hO.drop
  have hO := hO.nil
  exact ⟨_, a1, none, 0, 0, [], fr_ovl 10 ⟨rfl, rfl, trivial⟩, a4, hC, os_nil, hO.top⟩
 refine c_condF (congrArg Value.bool a3) ?_
 refine wp_skip ?_
 refine c_sr ?_
 refine pl_val (.int .i64 n) (y_move rfl) ?_
 obtain ⟨r7, c2, hs⟩ := bind_some hs
 refine pl_call Bd36 rfl (c_impl_ternary__impl_DualDiscriminatorOp_1 (M := M) n  hO.fut c2) ?_
 rintro _ c6 ⟨a5, a6, a7, b7, rfl, a8, a9, c3⟩
 have a0 := a0.cn a8
 have hC := hC.ext a8
 have hO := Own.join0 hO a8 c3
 have hO := hO.perm (R := b7 ++ (([a1]) ++ ([]))) (by simp)
 obtain ⟨b8, c4, b0, b1⟩ := box_store (P := Try.prog) a0 [] [(.int .i64 0), (.slice none 0 0)] [] [(.int .i64 r7.1), (.slice a5 a6 a7)] rfl rfl (by intro u hu; simp only [List.mem_cons, List.not_mem_nil, or_false] at hu; rcases hu with rfl | rfl <;> rfl)
 refine pl_skip (w' := b8) (ys_store rfl rfl (c4 _ _ rfl Sz27)) ?_
 have hO := hO.fr1
 have a9 := a9.ma b0 hO same_ (fun _ e => (mem_l (e)))
 have hC := hC.st b0 hO same_
 have hO := hO.ext b0
 have b1 : BoxV b8 a1 27 [(.int .i64 r7.1), (.slice a5 a6 a7)] := b1
 refine pl_val (.bool true) (y_assign rfl) ?_
 refine c_nil ?_
 refine wp_ret ?_
 cases hs
 have hO := hO.drop
 exact ⟨_, a1, a5, a6, a7, b7, fr_ovl 10 ⟨rfl, rfl, trivial⟩, b1, hC, a9, hO.top⟩

def k_spec_DualDiscriminatorOp (M : Nat → Prop) (w0 : World) (r : (Int × (List Int)) × Bool) (a : Act) (w : World) : Prop :=
  ∃ (σ : Nat → Value) (rg2 : Nat) (ra0 : Option Addr) (rn0 rc0 : Nat) (rf0 : List Nat), a = fr 10 (ovl σ [(2, (.pointer (some ⟨rg2, 0, none⟩))), (3, (.bool r.2))]) ∧ BoxV w rg2 27 [(.int .i64 r.1.1), (.slice ra0 rn0 rc0)] ∧ Chg [] w0 w ∧ (RT.os 3 (RT.int .i64)).val M w (.slice ra0 rn0 rc0) r.1.2 rf0 ∧ Own (Nw w0 []) (fun _ => True) w (rf0 ++ ([]))
def s_spec_DualDiscriminatorOp (n : Int) : Option ((Int × (List Int)) × Bool) :=
  (s_spec_l6Size n).bind fun r3 =>
  (bif (!r3) then some ((0, []), false) else (s_spec_l18Op n true).bind fun r7 =>
  some ((r7.1, r7.2), true))
set_option maxHeartbeats 4000000 in
theorem c_spec_DualDiscriminatorOp {M : Nat → Prop} {w : World}  (n : Int)  (hM : ∀ g, w.heap.size ≤ g → M g) {r : (Int × (List Int)) × Bool} (hs : s_spec_DualDiscriminatorOp n = some r) :
    Gives Try.prog 11 [(.int .i64 n)] w (fun v w' => ∃ (ra0 : Option Addr) (rn0 rc0 : Nat) (rf0 : List Nat), v = (.tuple #[(.agg #[(.int .i64 r.1.1), (.slice ra0 rn0 rc0)]), (.bool r.2)]) ∧ Chg [] w w' ∧ (RT.os 3 (RT.int .i64)).val M w' (.slice ra0 rn0 rc0) r.1.2 rf0 ∧ Own (Nw w []) (fun _ => True) w' (rf0 ++ ([]))) := by
 refine calls_fr Try.func11 rfl Try.ntmps11 (Nat.le_of_ble_eq_true rfl) ?_
 have hO := Own.start (N := Nw w []) hM Nw.fut
 have hC := Chg.refl [] w
 unfold s_spec_DualDiscriminatorOp at hs
 refine wp_mono (Q := KPost (k_spec_DualDiscriminatorOp M w r)) ?_ (fun e a b2 h => ?_)
 rotate_left
 ·cases e
  case ret =>
   obtain ⟨σ, rg2, ra0, rn0, rc0, rf0, rfl, hbrg2, hrest⟩ := h
   exact ret2x Try.results11 (res_cell rfl (box_load Ag27 Sz27 hbrg2 [] _ [] rfl rfl (fun h => nomatch h))) (res_tmp rfl) ⟨ra0, rn0, rc0, rf0, rfl, hrest⟩
  all_goals exact (h : False).elim
 refine c_sr ?_
 obtain ⟨b2, a1, b9, b3, b4, a0⟩ := new_block w [(.int .i64 0), (.slice none 0 0)] 27
 refine pl_val (w' := b2) (.pointer (some ⟨a1, 0, none⟩)) (y_alloc (by rw [b9, b3]; kernel_rfl)) ?_
 have hC := hC.ext b4
 have hO := hO.new1 b4 b3 a0.lt
 refine pl_val (.bool false) (y_assign rfl) ?_
 refine c_nil ?_
 refine c_seq ?_
 refine c_sr ?_
 refine pl_val (.int .i64 n) (y_move rfl) ?_
 obtain ⟨r3, c0, hs⟩ := bind_some hs
 refine pl_call Bd34 rfl (c_spec_l6Size (M := M) n  hO.fut c0) ?_
 rintro _ c5 ⟨rfl, a2⟩
 have a0 := a0.cn a2
 have hC := hC.ext a2
 have hO := hO.ext a2
 refine pl_val (.bool (!r3)) (y_not rfl) ?_
 refine c_nil ?_
 rcases bif_some hs with ⟨a3, hs⟩ | ⟨a3, hs⟩
 ·refine c_condT (congrArg Value.bool a3) ?_
  refine c_sr ?_
  refine pl_val (.agg #[(.int .i64 0), (.slice none 0 0)]) (y_build rfl (by kernel_rfl)) ?_
  obtain ⟨b5, c1, b6, a4⟩ := box_store (P := Try.prog) a0 [] [(.int .i64 0), (.slice none 0 0)] [] [(.int .i64 0), (.slice none 0 0)] rfl rfl (by intro u hu; simp only [List.mem_cons, List.not_mem_nil, or_false] at hu; rcases hu with rfl | rfl <;> rfl)
  refine pl_skip (w' := b5) (ys_store rfl rfl (c1 _ _ rfl Sz27)) ?_
  have hC := hC.st b6 hO same_
  have hO := hO.ext b6
  have a4 : BoxV b5 a1 27 [(.int .i64 0), (.slice none 0 0)] := a4
  refine pl_val (.bool false) (y_assign rfl) ?_
  refine c_nil ?_
  refine wp_ret ?_
  cases hs
  have hO := hO.drop
  have hO := hO.nil
  exact ⟨_, a1, none, 0, 0, [], fr_ovl 10 ⟨rfl, rfl, trivial⟩, a4, hC, os_nil, hO.top⟩
 refine c_condF (congrArg Value.bool a3) ?_
 refine wp_skip ?_
 refine c_sr ?_
 refine pl_val (.int .i64 n) (y_move rfl) ?_
 obtain ⟨r7, c2, hs⟩ := bind_some hs
 refine pl_call Bd35 rfl (c_spec_l18Op (M := M) n true  hO.fut c2) ?_
 rintro _ c6 ⟨a5, a6, a7, b7, rfl, a8, a9, c3⟩
 have a0 := a0.cn a8
 have hC := hC.ext a8
 have hO := Own.join0 hO a8 c3
 have hO := hO.perm (R := b7 ++ (([a1]) ++ ([]))) (by simp)
 obtain ⟨b8, c4, b0, b1⟩ := box_store (P := Try.prog) a0 [] [(.int .i64 0), (.slice none 0 0)] [] [(.int .i64 r7.1), (.slice a5 a6 a7)] rfl rfl (by intro u hu; simp only [List.mem_cons, List.not_mem_nil, or_false] at hu; rcases hu with rfl | rfl <;> rfl)
 refine pl_skip (w' := b8) (ys_store rfl rfl (c4 _ _ rfl Sz27)) ?_
 have hO := hO.fr1
 have a9 := a9.ma b0 hO same_ (fun _ e => (mem_l (e)))
 have hC := hC.st b0 hO same_
 have hO := hO.ext b0
 have b1 : BoxV b8 a1 27 [(.int .i64 r7.1), (.slice a5 a6 a7)] := b1
 refine pl_val (.bool true) (y_assign rfl) ?_
 refine c_nil ?_
 refine wp_ret ?_
 cases hs
 have hO := hO.drop
 exact ⟨_, a1, a5, a6, a7, b7, fr_ovl 10 ⟨rfl, rfl, trivial⟩, b1, hC, a9, hO.top⟩

def k_impl_power (M : Nat → Prop) (w0 : World) (r : Int) (a : Act) (w : World) : Prop :=
  ∃ (σ : Nat → Value) , a = fr 14 (ovl σ [(4, (.int .i64 r))]) ∧ Chg [] w0 w
def s_impl_power (n : Int) (k : Int) : Option (Int) :=
  (iter (S := Int × Int) (R := Int) (fun s2 =>
  (bif (decide (0 < s2.1)) then some (.nx (w64 (s2.1 - 1), w64 (s2.2 * n))) else some (.br (s2.1, s2.2)))) FU (k, 1)).bind fun o6 => after o6 (fun r_ => some r_) (fun s2 =>
  some s2.2)
set_option maxHeartbeats 4000000 in
theorem c_impl_power {M : Nat → Prop} {w : World}  (n : Int) (k : Int)  (hM : ∀ g, w.heap.size ≤ g → M g) {r : Int} (hs : s_impl_power n k = some r) :
    Gives Try.prog 66 [(.int .i64 n), (.int .i64 k)] w (fun v w' => v = (.int .i64 r) ∧ Chg [] w w') := by
 refine calls_fr Try.func66 rfl Try.ntmps66 (Nat.le_of_ble_eq_true rfl) ?_
 have hO := Own.start (N := Nw w []) hM Nw.fut
 have hC := Chg.refl [] w
 unfold s_impl_power at hs
 refine wp_mono (Q := KPost (k_impl_power M w r)) ?_ (fun e a a2 h => ?_)
 rotate_left
 ·cases e
  case ret =>
   obtain ⟨σ, rfl, hrest⟩ := h
   exact ret1x Try.results66 (res_tmp rfl) ⟨rfl, hrest⟩
  all_goals exact (h : False).elim
 refine c_sr ?_
 refine pl_val (.int .i64 0) (y_assign rfl) ?_
 refine c_nil ?_
 refine c_sr ?_
 refine pl_val (.int .i64 1) (y_assign rfl) ?_
 refine c_nil ?_
 refine c_seq ?_
 obtain ⟨o6, a3, hs⟩ := bind_some hs
 refine wp_block ?_
 refine wp_iter (id := 0) (I := fun s2 a a0 => ∃ (σ : Nat → Value), a = fr 14 (ovl σ [(0, (.int .i64 n)), (1, (.int .i64 s2.1)), (5, (.int .i64 s2.2))]) ∧ Chg [] w a0 ∧ Own (Nw w []) M a0 ([])) (J := fun s2 a a0 => ∃ (σ : Nat → Value), a = fr 14 (ovl σ [(5, (.int .i64 s2.2))]) ∧ Chg [] w a0 ∧ Own (Nw w []) M a0 ([])) (K := (k_impl_power M w)) ?_ FU (k, 1) o6 _ _ ?_ a3 ?_
 ·rintro s2 o6 a a0 ⟨σ, rfl, hC, hO⟩ hs
  refine c_seq ?_
  refine c_sr ?_
  refine pl_val (.int .i64 s2.1) (y_move rfl) ?_
  refine pl_val (.bool (decide (0 < s2.1))) (y_gtr rfl rfl) ?_
  refine c_nil ?_
  rcases bif_some hs with ⟨a1, hs⟩ | ⟨a1, hs⟩
  ·refine c_condT (congrArg Value.bool a1) ?_
   refine wp_skip ?_
   refine c_seq ?_
   refine wp_block ?_
   refine c_region ?_
   refine pl_val (.int .i64 s2.2) (y_move rfl) ?_
   refine pl_val (.int .i64 n) (y_move rfl) ?_
   refine pl_val (.int .i64 (w64 (s2.2 * n))) (y_mul rfl rfl) ?_
   refine pl_val (.int .i64 (w64 (s2.2 * n))) (y_assign rfl) ?_
   refine c_nil ?_
   refine c_region ?_
   refine pl_val (.int .i64 s2.1) (y_move rfl) ?_
   refine pl_val (.int .i64 (w64 (s2.1 - 1))) (y_sub rfl rfl) ?_
   refine pl_val (.int .i64 (w64 (s2.1 - 1))) (y_assign rfl) ?_
   refine c_nil ?_
   cases hs
   exact ⟨_, fr_ovl 14 ⟨rfl, rfl, rfl, trivial⟩, hC, hO⟩
  refine c_condF (congrArg Value.bool a1) ?_
  refine wp_exit ?_
  cases hs
  exact ⟨rfl, _, fr_ovl 14 ⟨rfl, trivial⟩, hC, hO⟩
 ·skip
  exact ⟨_, fr_ovl 14 ⟨rfl, rfl, rfl, trivial⟩, hC, hO⟩
 cases o6 with
 | nx _ => exact True.intro
 | rt r_ =>
  have hs := after_rt hs
  intro a4 a2 hK
  cases hs
  exact hK
 | br s2 =>
  have hs := after_br hs
  rintro a4 a0 ⟨σ, rfl, hC, hO⟩
  refine c_sr ?_
  refine pl_val (.int .i64 s2.2) (y_move rfl) ?_
  refine pl_val (.int .i64 s2.2) (y_assign rfl) ?_
  refine c_nil ?_
  refine wp_ret ?_
  cases hs
  exact ⟨_, fr_ovl 14 ⟨rfl, trivial⟩, hC⟩

def k_impl_inSize (M : Nat → Prop) (w0 : World) (r : Bool) (a : Act) (w : World) : Prop :=
  ∃ (σ : Nat → Value) , a = fr 21 (ovl σ [(4, (.bool r))]) ∧ Chg [] w0 w
def s_impl_inSize (list : List Int) (n : Int) : Option (Bool) :=
  (forR (S := Unit) (R := Bool) (fun _ x8 s5 =>
  (bif (decide (x8 < 0)) then some (.rt false) else (bif (decide (n ≤ x8)) then some (.rt false) else some (.nx ())))) 0 list ()).bind fun o9 => after o9 (fun r_ => some r_) (fun s5 =>
  some true)
set_option maxHeartbeats 4000000 in
theorem c_impl_inSize {M : Nat → Prop} {w : World} {pa0 : Option Addr} {pn0 pc0 : Nat} (list : List Int) (n : Int) (h0 : (RT.rs (RT.int .i64)).val M w (.slice pa0 pn0 pc0) list ([])) (hM : ∀ g, w.heap.size ≤ g → M g) {r : Bool} (hs : s_impl_inSize list n = some r) :
    Gives Try.prog 67 [(.slice pa0 pn0 pc0), (.int .i64 n)] w (fun v w' => v = (.bool r) ∧ Chg [] w w') := by
 refine calls_fr Try.func67 rfl Try.ntmps67 (Nat.le_of_ble_eq_true rfl) ?_
 have hO := Own.start (N := Nw w []) hM Nw.fut
 have hC := Chg.refl [] w
 unfold s_impl_inSize at hs
 refine wp_mono (Q := KPost (k_impl_inSize M w r)) ?_ (fun e a a4 h => ?_)
 rotate_left
 ·cases e
  case ret =>
   obtain ⟨σ, rfl, hrest⟩ := h
   exact ret1x Try.results67 (res_tmp rfl) ⟨rfl, hrest⟩
  all_goals exact (h : False).elim
 refine c_sr ?_
 refine pl_val (.bool false) (y_assign rfl) ?_
 refine c_nil ?_
 refine c_seq ?_
 refine c_sr ?_
 refine pl_val (.slice pa0 pn0 pc0) (y_move rfl) ?_
 refine pl_val (.int .i64 (list.length : Int)) (y_len' Sl25 (rs_len h0) rfl) ?_
 refine pl_val (.int .i64 0) (y_move rfl) ?_
 refine c_nil ?_
 obtain ⟨o9, a5, hs⟩ := bind_some hs
 refine wp_block ?_
 refine wp_forR (id := 0) (I := fun i_ xs_ s5 a a0 => ∃ a1 : Nat, i_ = (a1 : Int) ∧ List.drop a1 list = xs_ ∧ (∃ (σ : Nat → Value), a = fr 21 (ovl σ [(1, (.int .i64 n)), (7, (.slice pa0 pn0 pc0)), (8, (.int .i64 (list.length : Int))), (9, (.int .i64 (a1 : Int)))]) ∧ Chg [] w a0 ∧ Own (Nw w []) M a0 ([]) ∧ (RT.rs (RT.int .i64)).val M a0 (.slice pa0 pn0 pc0) list ([]))) (J := fun s5 a a0 => ∃ (σ : Nat → Value), a = fr 21 (ovl σ []) ∧ Chg [] w a0 ∧ Own (Nw w []) M a0 ([]) ∧ (RT.rs (RT.int .i64)).val M a0 (.slice pa0 pn0 pc0) list ([])) (K := (k_impl_inSize M w)) ?_ ?_ list 0 () o9 _ _ ?_ a5 ?_
 ·rintro _ s5 a a0 ⟨a1, rfl, hd, σ, rfl, hC, hO, h0⟩
  have hlt := drop_nil_ge hd
  refine c_sr ?_
  refine pl_val (.bool (decide ((a1 : Int) < (list.length : Int)))) (y_lss rfl rfl) ?_
  refine c_nil ?_
  refine c_seq ?_
  refine c_condF (congrArg Value.bool (decide_eq_false hlt)) ?_
  refine wp_exit ?_
  exact ⟨rfl, _, fr_ovl 21 trivial, hC, hO, h0⟩
 ·rintro _ x8 xs_ s5 o9 a a0 ⟨a1, rfl, hd, σ, rfl, hC, hO, h0⟩ hs
  have hlt := drop_cons_lt hd
  have a6 := drop_cons_idx hd
  refine c_sr ?_
  refine pl_val (.bool (decide ((a1 : Int) < (list.length : Int)))) (y_lss rfl rfl) ?_
  refine c_nil ?_
  refine c_seq ?_
  refine c_condT (congrArg Value.bool (decide_eq_true hlt)) ?_
  refine wp_skip ?_
  refine c_seq ?_
  refine wp_block ?_
  refine c_sr ?_
  obtain ⟨a7, a8, a9, b0⟩ := rs_idx Sl25 Sz3 h0 a6
  refine pl_val (.pointer (some ⟨a7, a8, none⟩)) (a9 _ _ _ _ _ _ _ _ _ rfl rfl) ?_
  refine pl_val (.int .i64 x8) (y_load rfl ((at_load_int Ag3 Sz3 b0) _ (Chg.refl _ _))) ?_
  refine pl_val (.int .i64 x8) (y_assign rfl) ?_
  refine c_nil ?_
  refine c_sr ?_
  refine pl_val (.int .i64 x8) (y_move rfl) ?_
  refine pl_val (.bool (decide (x8 < 0))) (y_lss rfl rfl) ?_
  refine pl_val (.bool (decide (x8 < 0))) (y_move rfl) ?_
  rcases bif_some hs with ⟨a2, hs⟩ | ⟨a2, hs⟩
  ·skip
   refine pl_not (tg := 15) (by kernel_rfl) (congrArg Value.bool a2) ?_
   refine pl_not (tg := 15) (by kernel_rfl) (congrArg Value.bool a2) ?_
   refine pl_not (tg := 15) (by kernel_rfl) (congrArg Value.bool a2) ?_
   refine pl_val (.bool true) (y_pick_t (congrArg Value.bool a2) rfl) ?_
   refine c_nil ?_
   refine c_condT (by rfl) ?_
   refine c_sr ?_
   refine pl_val (.bool false) (y_assign rfl) ?_
   refine c_nil ?_
   refine wp_ret ?_
   cases hs
   exact ⟨_, fr_ovl 21 ⟨rfl, trivial⟩, hC⟩
  refine pl_yes (.int .i64 x8) (tg := 15) (by kernel_rfl) (congrArg Value.bool a2) (y_move rfl) ?_
  refine pl_yes (.int .i64 n) (tg := 15) (by kernel_rfl) (congrArg Value.bool a2) (y_move rfl) ?_
  refine pl_yes (.bool (decide (n ≤ x8))) (tg := 15) (by kernel_rfl) (congrArg Value.bool a2) (y_geq rfl rfl) ?_
  refine pl_val (.bool (decide (n ≤ x8))) (y_pick_f (congrArg Value.bool a2) rfl) ?_
  refine c_nil ?_
  rcases bif_some hs with ⟨a3, hs⟩ | ⟨a3, hs⟩
  ·refine c_condT (congrArg Value.bool a3) ?_
   refine c_sr ?_
   refine pl_val (.bool false) (y_assign rfl) ?_
   refine c_nil ?_
   refine wp_ret ?_
   cases hs
   exact ⟨_, fr_ovl 21 ⟨rfl, trivial⟩, hC⟩
  refine c_condF (congrArg Value.bool a3) ?_
  refine wp_skip ?_
  refine c_region ?_
  refine pl_val (.int .i64 (w64 ((a1 : Int) + 1))) (y_add rfl rfl) ?_
  refine pl_val (.int .i64 (w64 ((a1 : Int) + 1))) (y_move rfl) ?_
  refine c_nil ?_
  cases hs
  exact ⟨_, rfl, drop_cons_next hd, _, fr_ovl 21 ⟨rfl, rfl, rfl, congrArg (Value.int .i64) (w64_succ hlt (Int.natCast_nonneg _) (rs_max h0)), trivial⟩, hC, hO, h0⟩
 ·skip
  exact ⟨0, rfl, rfl, _, fr_ovl 21 ⟨rfl, rfl, rfl, rfl, trivial⟩, hC, hO, h0⟩
 cases o9 with
 | nx _ => exact True.intro
 | rt r_ =>
  have hs := after_rt hs
  intro b1 a4 hK
  cases hs
  exact hK
 | br s5 =>
  have hs := after_br hs
  rintro b1 a0 ⟨σ, rfl, hC, hO, h0⟩
  refine c_sr ?_
  refine pl_val (.bool true) (y_assign rfl) ?_
  refine c_nil ?_
  refine wp_ret ?_
  cases hs
  exact ⟨_, fr_ovl 21 ⟨rfl, trivial⟩, hC⟩

theorem Bd66 : Bodied Try.prog 66 := bodied Try.func66 (by kernel_rfl) rfl

theorem Bd67 : Bodied Try.prog 67 := bodied Try.func67 (by kernel_rfl) rfl

def k_impl_isOp (M : Nat → Prop) (w0 : World) (r : Bool) (a : Act) (w : World) : Prop :=
  ∃ (σ : Nat → Value) , a = fr 29 (ovl σ [(4, (.bool r))]) ∧ Chg [] w0 w
def s_impl_isOp (f : Int × (List Int)) (n : Int) : Option (Bool) :=
  (bif (decide (0 ≤ f.1)) then (bif (decide (f.1 ≤ 3)) then (s_impl_power n f.1).bind fun r7 =>
  (bif ((f.2.length : Int) == r7) then (s_impl_inSize f.2 n).bind fun r10 =>
  some r10 else some false) else some false) else some false)
set_option maxHeartbeats 4000000 in
theorem c_impl_isOp {M : Nat → Prop} {w : World} {pa0 : Option Addr} {pn0 pc0 : Nat} (f : Int × (List Int)) (n : Int) (h0 : (RT.rs (RT.int .i64)).val M w (.slice pa0 pn0 pc0) f.2 ([])) (hM : ∀ g, w.heap.size ≤ g → M g) {r : Bool} (hs : s_impl_isOp f n = some r) :
    Gives Try.prog 38 [(.agg #[(.int .i64 f.1), (.slice pa0 pn0 pc0)]), (.int .i64 n)] w (fun v w' => v = (.bool r) ∧ Chg [] w w') := by
 refine calls_fr Try.func38 rfl Try.ntmps38 (Nat.le_of_ble_eq_true rfl) ?_
 have hO := Own.start (N := Nw w []) hM Nw.fut
 have hC := Chg.refl [] w
 unfold s_impl_isOp at hs
 refine wp_mono (Q := KPost (k_impl_isOp M w r)) ?_ (fun e a b5 h => ?_)
 rotate_left
 ·cases e
  case ret =>
   obtain ⟨σ, rfl, hrest⟩ := h
   exact ret1x Try.results38 (res_tmp rfl) ⟨rfl, hrest⟩
  all_goals exact (h : False).elim
 refine c_sr ?_
 obtain ⟨a8, a6, b1, b0, a9, a1⟩ := new_block w [(.int .i64 f.1), (.slice pa0 pn0 pc0)] 27
 refine pl_val (w' := a8) (.pointer (some ⟨a6, 0, none⟩)) (y_box rfl (by rw [b1, b0]; kernel_rfl)) ?_
 have h0 := h0.ext a9
 have hC := hC.ext a9
 have hO := hO.new1 a9 b0 a1.lt
 refine pl_val (.bool false) (y_assign rfl) ?_
 refine c_nil ?_
 refine c_seq ?_
 refine x_start [] Mx rfl ?_
 have a7 := Chg.drew a8
 generalize World.drew a8 = b2 at a7 ⊢
 have h0 := h0.ext a7
 have a1 := a1.cn a7
 have hC := hC.ext a7
 have hO := hO.ext a7
 have hS := Chg.refl [] b2
 refine x_p 0 (.pointer (some ⟨a6, 0, none⟩)) rfl (by kernel_rfl)  (fun _ => y_faddr rfl Fa27x0) (fun _ => hS) ?_
 refine x_l 1 (.int .i64 f.1) rfl (by kernel_rfl)  (fun w' hw' => y_load rfl ((box_load Ag3 Sz3 a1 [] [(.int .i64 f.1)] [(.slice pa0 pn0 pc0)] rfl rfl (fun _ => rfl)) w' hw')) hS ?_
 refine x_p 2 (.bool (decide (0 ≤ f.1))) rfl (by kernel_rfl)  (fun _ => y_geq rfl rfl) (fun _ => hS) ?_
 refine x_p 3 (.bool (decide (0 ≤ f.1))) rfl (by kernel_rfl)  (fun _ => y_move rfl) (fun _ => hS) ?_
 rcases bif_some hs with ⟨a3, hs⟩ | ⟨a3, hs⟩
 ·skip
  refine x_py 4 (.pointer (some ⟨a6, 0, none⟩)) rfl (by kernel_rfl) (tg := 8) (by kernel_rfl) (congrArg Value.bool a3) (fun _ => y_faddr rfl Fa27x0) (fun _ => hS) ?_
  refine x_ly 5 (.int .i64 f.1) rfl (by kernel_rfl) (tg := 8) (by kernel_rfl) (congrArg Value.bool a3) (fun w' hw' => y_load rfl ((box_load Ag3 Sz3 a1 [] [(.int .i64 f.1)] [(.slice pa0 pn0 pc0)] rfl rfl (fun _ => rfl)) w' hw')) hS ?_
  refine x_py 6 (.bool (decide (f.1 ≤ 3))) rfl (by kernel_rfl) (tg := 8) (by kernel_rfl) (congrArg Value.bool a3) (fun _ => y_leq rfl rfl) (fun _ => hS) ?_
  refine x_p 7 (.bool (decide (f.1 ≤ 3))) rfl (by kernel_rfl)  (fun _ => y_pick_t (congrArg Value.bool a3) rfl) (fun _ => hS) ?_
  refine x_p 8 (.bool (decide (f.1 ≤ 3))) rfl (by kernel_rfl)  (fun _ => y_move rfl) (fun _ => hS) ?_
  rcases bif_some hs with ⟨a0, hs⟩ | ⟨a0, hs⟩
  ·skip
   refine x_py 9 (.pointer (some ⟨a6, 1, none⟩)) rfl (by kernel_rfl) (tg := 13) (by kernel_rfl) (congrArg Value.bool a0) (fun _ => y_faddr rfl Fa27x1) (fun _ => hS) ?_
   refine x_ly 10 (.slice pa0 pn0 pc0) rfl (by kernel_rfl) (tg := 13) (by kernel_rfl) (congrArg Value.bool a0) (fun w' hw' => y_load rfl ((box_load Ag25 Sz25 a1 [(.int .i64 f.1)] [(.slice pa0 pn0 pc0)] [] rfl rfl (fun _ => rfl)) w' hw')) hS ?_
   refine x_py 11 (.int .i64 (f.2.length : Int)) rfl (by kernel_rfl) (tg := 13) (by kernel_rfl) (congrArg Value.bool a0) (fun _ => y_len' Sl25 (rs_len h0) rfl) (fun _ => hS) ?_
   refine x_py 12 (.int .i64 n) rfl (by kernel_rfl) (tg := 13) (by kernel_rfl) (congrArg Value.bool a0) (fun _ => y_move rfl) (fun _ => hS) ?_
   refine x_py 13 (.pointer (some ⟨a6, 0, none⟩)) rfl (by kernel_rfl) (tg := 13) (by kernel_rfl) (congrArg Value.bool a0) (fun _ => y_faddr rfl Fa27x0) (fun _ => hS) ?_
   refine x_ly 14 (.int .i64 f.1) rfl (by kernel_rfl) (tg := 13) (by kernel_rfl) (congrArg Value.bool a0) (fun w' hw' => y_load rfl ((box_load Ag3 Sz3 a1 [] [(.int .i64 f.1)] [(.slice pa0 pn0 pc0)] rfl rfl (fun _ => rfl)) w' hw')) hS ?_
   refine x_one (i := 15) (by kernel_rfl) ?_
   obtain ⟨r7, b3, hs⟩ := bind_some hs
   refine xk_cally (b := false) rfl (tg := 13) (by kernel_rfl) (congrArg Value.bool a0) Bd66 rfl (c_impl_power (M := M) n f.1  hO.fut b3) rfl (by rintro _ _ _ ⟨rfl, a4⟩; exact hS.ext a4) ?_
   rintro _ b6 ⟨rfl, a4⟩
   have h0 := h0.ext a4
   have a1 := a1.cn a4
   have hC := hC.ext a4
   have hO := hO.ext a4
   have hS := hS.ext a4
   refine x_py 16 (.bool ((f.2.length : Int) == r7)) rfl (by kernel_rfl) (tg := 13) (by kernel_rfl) (congrArg Value.bool a0) (fun _ => y_eql rfl rfl) (fun _ => hS) ?_
   refine x_p 17 (.bool ((f.2.length : Int) == r7)) rfl (by kernel_rfl)  (fun _ => y_pick_t (congrArg Value.bool a0) rfl) (fun _ => hS) ?_
   refine x_p 18 (.bool ((f.2.length : Int) == r7)) rfl (by kernel_rfl)  (fun _ => y_move rfl) (fun _ => hS) ?_
   rcases bif_some hs with ⟨a2, hs⟩ | ⟨a2, hs⟩
   ·skip
    refine x_py 19 (.pointer (some ⟨a6, 1, none⟩)) rfl (by kernel_rfl) (tg := 23) (by kernel_rfl) (congrArg Value.bool a2) (fun _ => y_faddr rfl Fa27x1) (fun _ => hS) ?_
    refine x_py 21 (.int .i64 n) rfl (by kernel_rfl) (tg := 23) (by kernel_rfl) (congrArg Value.bool a2) (fun _ => y_move rfl) (fun _ => hS) ?_
    refine x_one (i := 20) (by kernel_rfl) ?_
    refine xk_valy (b := false) (.slice pa0 pn0 pc0) rfl (tg := 23) (by kernel_rfl) (congrArg Value.bool a2) (y_load rfl ((box_load Ag25 Sz25 a1 [(.int .i64 f.1)] [(.slice pa0 pn0 pc0)] [] rfl rfl (fun _ => rfl)) _ (Chg.refl _ _))) rfl (fun _ => hS) ?_
    refine x_one (i := 22) (by kernel_rfl) ?_
    obtain ⟨r10, b4, hs⟩ := bind_some hs
    refine xk_cally (b := false) rfl (tg := 23) (by kernel_rfl) (congrArg Value.bool a2) Bd67 rfl (c_impl_inSize (M := M) f.2 n h0 hO.fut b4) rfl (by rintro _ _ _ ⟨rfl, a5⟩; exact hS.ext a5) ?_
    rintro _ b7 ⟨rfl, a5⟩
    have h0 := h0.ext a5
    have a1 := a1.cn a5
    have hC := hC.ext a5
    have hO := hO.ext a5
    have hS := hS.ext a5
    refine x_p 23 (.bool r10) rfl (by kernel_rfl)  (fun _ => y_pick_t (congrArg Value.bool a2) rfl) (fun _ => hS) ?_
    refine x_p 24 (.bool r10) rfl (by kernel_rfl)  (fun _ => y_assign rfl) (fun _ => hS) ?_
    refine x_end (by kernel_rfl) ?_
    clear hS
    refine wp_ret ?_
    cases hs
    exact ⟨_, fr_ovl 29 ⟨rfl, trivial⟩, hC⟩
   refine x_pn 19 rfl (by kernel_rfl) (tg := 23) (by kernel_rfl) (congrArg Value.bool a2) (fun _ => hS) ?_
   refine x_pn 20 rfl (by kernel_rfl) (tg := 23) (by kernel_rfl) (congrArg Value.bool a2) (fun _ => hS) ?_
   refine x_pn 21 rfl (by kernel_rfl) (tg := 23) (by kernel_rfl) (congrArg Value.bool a2) (fun _ => hS) ?_
   refine x_pn 22 rfl (by kernel_rfl) (tg := 23) (by kernel_rfl) (congrArg Value.bool a2) (fun _ => hS) ?_
   refine x_p 23 (.bool false) rfl (by kernel_rfl)  (fun _ => y_pick_f (congrArg Value.bool a2) rfl) (fun _ => hS) ?_
   refine x_p 24 (.bool false) rfl (by kernel_rfl)  (fun _ => y_assign rfl) (fun _ => hS) ?_
   refine x_end (by kernel_rfl) ?_
   clear hS
   refine wp_ret ?_
   cases hs
   exact ⟨_, fr_ovl 29 ⟨rfl, trivial⟩, hC⟩
  refine x_pn 9 rfl (by kernel_rfl) (tg := 13) (by kernel_rfl) (congrArg Value.bool a0) (fun _ => hS) ?_
  refine x_pn 10 rfl (by kernel_rfl) (tg := 13) (by kernel_rfl) (congrArg Value.bool a0) (fun _ => hS) ?_
  refine x_pn 11 rfl (by kernel_rfl) (tg := 13) (by kernel_rfl) (congrArg Value.bool a0) (fun _ => hS) ?_
  refine x_pn 12 rfl (by kernel_rfl) (tg := 13) (by kernel_rfl) (congrArg Value.bool a0) (fun _ => hS) ?_
  refine x_pn 13 rfl (by kernel_rfl) (tg := 13) (by kernel_rfl) (congrArg Value.bool a0) (fun _ => hS) ?_
  refine x_pn 14 rfl (by kernel_rfl) (tg := 13) (by kernel_rfl) (congrArg Value.bool a0) (fun _ => hS) ?_
  refine x_pn 15 rfl (by kernel_rfl) (tg := 13) (by kernel_rfl) (congrArg Value.bool a0) (fun _ => hS) ?_
  refine x_pn 16 rfl (by kernel_rfl) (tg := 13) (by kernel_rfl) (congrArg Value.bool a0) (fun _ => hS) ?_
  refine x_p 17 (.bool false) rfl (by kernel_rfl)  (fun _ => y_pick_f (congrArg Value.bool a0) rfl) (fun _ => hS) ?_
  refine x_p 18 (.bool false) rfl (by kernel_rfl)  (fun _ => y_move rfl) (fun _ => hS) ?_
  refine x_pn 19 rfl (by kernel_rfl) (tg := 23) (by kernel_rfl) (by rfl) (fun _ => hS) ?_
  refine x_pn 20 rfl (by kernel_rfl) (tg := 23) (by kernel_rfl) (by rfl) (fun _ => hS) ?_
  refine x_pn 21 rfl (by kernel_rfl) (tg := 23) (by kernel_rfl) (by rfl) (fun _ => hS) ?_
  refine x_pn 22 rfl (by kernel_rfl) (tg := 23) (by kernel_rfl) (by rfl) (fun _ => hS) ?_
  refine x_p 23 (.bool false) rfl (by kernel_rfl)  (fun _ => y_pick_f (by rfl) rfl) (fun _ => hS) ?_
  refine x_p 24 (.bool false) rfl (by kernel_rfl)  (fun _ => y_assign rfl) (fun _ => hS) ?_
  refine x_end (by kernel_rfl) ?_
  clear hS
  refine wp_ret ?_
  cases hs
  exact ⟨_, fr_ovl 29 ⟨rfl, trivial⟩, hC⟩
 refine x_pn 4 rfl (by kernel_rfl) (tg := 8) (by kernel_rfl) (congrArg Value.bool a3) (fun _ => hS) ?_
 refine x_pn 5 rfl (by kernel_rfl) (tg := 8) (by kernel_rfl) (congrArg Value.bool a3) (fun _ => hS) ?_
 refine x_pn 6 rfl (by kernel_rfl) (tg := 8) (by kernel_rfl) (congrArg Value.bool a3) (fun _ => hS) ?_
 refine x_p 7 (.bool false) rfl (by kernel_rfl)  (fun _ => y_pick_f (congrArg Value.bool a3) rfl) (fun _ => hS) ?_
 refine x_p 8 (.bool false) rfl (by kernel_rfl)  (fun _ => y_move rfl) (fun _ => hS) ?_
 refine x_pn 9 rfl (by kernel_rfl) (tg := 13) (by kernel_rfl) (by rfl) (fun _ => hS) ?_
 refine x_pn 10 rfl (by kernel_rfl) (tg := 13) (by kernel_rfl) (by rfl) (fun _ => hS) ?_
 refine x_pn 11 rfl (by kernel_rfl) (tg := 13) (by kernel_rfl) (by rfl) (fun _ => hS) ?_
 refine x_pn 12 rfl (by kernel_rfl) (tg := 13) (by kernel_rfl) (by rfl) (fun _ => hS) ?_
 refine x_pn 13 rfl (by kernel_rfl) (tg := 13) (by kernel_rfl) (by rfl) (fun _ => hS) ?_
 refine x_pn 14 rfl (by kernel_rfl) (tg := 13) (by kernel_rfl) (by rfl) (fun _ => hS) ?_
 refine x_pn 15 rfl (by kernel_rfl) (tg := 13) (by kernel_rfl) (by rfl) (fun _ => hS) ?_
 refine x_pn 16 rfl (by kernel_rfl) (tg := 13) (by kernel_rfl) (by rfl) (fun _ => hS) ?_
 refine x_p 17 (.bool false) rfl (by kernel_rfl)  (fun _ => y_pick_f (by rfl) rfl) (fun _ => hS) ?_
 refine x_p 18 (.bool false) rfl (by kernel_rfl)  (fun _ => y_move rfl) (fun _ => hS) ?_
 refine x_pn 19 rfl (by kernel_rfl) (tg := 23) (by kernel_rfl) (by rfl) (fun _ => hS) ?_
 refine x_pn 20 rfl (by kernel_rfl) (tg := 23) (by kernel_rfl) (by rfl) (fun _ => hS) ?_
 refine x_pn 21 rfl (by kernel_rfl) (tg := 23) (by kernel_rfl) (by rfl) (fun _ => hS) ?_
 refine x_pn 22 rfl (by kernel_rfl) (tg := 23) (by kernel_rfl) (by rfl) (fun _ => hS) ?_
 refine x_p 23 (.bool false) rfl (by kernel_rfl)  (fun _ => y_pick_f (by rfl) rfl) (fun _ => hS) ?_
 refine x_p 24 (.bool false) rfl (by kernel_rfl)  (fun _ => y_assign rfl) (fun _ => hS) ?_
 refine x_end (by kernel_rfl) ?_
 clear hS
 refine wp_ret ?_
 cases hs
 exact ⟨_, fr_ovl 29 ⟨rfl, trivial⟩, hC⟩

def k_impl_argsAt (M : Nat → Prop) (w0 : World) (r : (List Int)) (a : Act) (w : World) : Prop :=
  ∃ (σ : Nat → Value) (ra0 : Option Addr) (rn0 rc0 : Nat) (rf0 : List Nat), a = fr 27 (ovl σ [(6, (.slice ra0 rn0 rc0))]) ∧ Chg [] w0 w ∧ (RT.os 3 (RT.int .i64)).val M w (.slice ra0 rn0 rc0) r rf0 ∧ Own (Nw w0 []) (fun _ => True) w (rf0 ++ ([]))
def s_impl_argsAt (i : Int) (k : Int) (n : Int) : Option ((List Int)) :=
  (mks k (0 : Int)).bind fun y2 =>
  (iter (S := Int × Int × (List Int)) (R := (List Int)) (fun s17 =>
  (bif (decide (0 ≤ s17.2.1)) then (nz n).bind fun u26 =>
  (idx s17.2.2 s17.2.1).bind fun x27 =>
  (nz n).bind fun u30 =>
  some (.nx (w64 (Int.tdiv s17.1 n), w64 (s17.2.1 - 1), List.set s17.2.2 (Int.toNat s17.2.1) (Int.tmod s17.1 n))) else some (.br (s17.1, s17.2.1, s17.2.2)))) FU (i, w64 (k - 1), y2)).bind fun o21 => after o21 (fun r_ => some r_) (fun s17 =>
  some s17.2.2)
set_option maxHeartbeats 4000000 in
theorem c_impl_argsAt {M : Nat → Prop} {w : World}  (i : Int) (k : Int) (n : Int)  (hM : ∀ g, w.heap.size ≤ g → M g) {r : (List Int)} (hs : s_impl_argsAt i k n = some r) :
    Gives Try.prog 89 [(.int .i64 i), (.int .i64 k), (.int .i64 n)] w (fun v w' => ∃ (ra0 : Option Addr) (rn0 rc0 : Nat) (rf0 : List Nat), v = (.slice ra0 rn0 rc0) ∧ Chg [] w w' ∧ (RT.os 3 (RT.int .i64)).val M w' (.slice ra0 rn0 rc0) r rf0 ∧ Own (Nw w []) (fun _ => True) w' (rf0 ++ ([]))) := by
 refine calls_fr Try.func89 rfl Try.ntmps89 (Nat.le_of_ble_eq_true rfl) ?_
 have hO := Own.start (N := Nw w []) hM Nw.fut
 have hC := Chg.refl [] w
 unfold s_impl_argsAt at hs
 refine wp_mono (Q := KPost (k_impl_argsAt M w r)) ?_ (fun e a a7 h => ?_)
 rotate_left
 ·cases e
  case ret =>
   obtain ⟨σ, ra0, rn0, rc0, rf0, rfl, hrest⟩ := h
   exact ret1x Try.results89 (res_tmp rfl) ⟨ra0, rn0, rc0, rf0, rfl, hrest⟩
  all_goals exact (h : False).elim
 refine c_sr ?_
 refine pl_val (.slice none 0 0) (y_assign rfl) ?_
 refine c_nil ?_
 refine c_sr ?_
 refine pl_val (.int .i64 k) (y_move rfl) ?_
 obtain ⟨y2, b5, hs⟩ := bind_some hs
 obtain ⟨a0, a1, a2, a7, b6, b7, b1, b8, a8⟩ := mk_os (M := M) (w := w) (r := (RT.int .i64)) Rw25 b5 (fun _ _ => ⟨rfl, rfl⟩)
 refine pl_val (w' := a7) (.slice a0 a1 a2) (y_make rfl rfl b7) ?_
 have hC := hC.ext b1
 have hO := hO.new b1 b8 (os_nodup a8) a8.fpl
 refine pl_val (.slice a0 a1 a2) (y_assign rfl) ?_
 refine c_nil ?_
 refine c_seq ?_
 refine c_sr ?_
 refine pl_val (.int .i64 k) (y_move rfl) ?_
 refine pl_val (.int .i64 (w64 (k - 1))) (y_sub rfl rfl) ?_
 refine pl_val (.int .i64 (w64 (k - 1))) (y_assign rfl) ?_
 refine c_nil ?_
 obtain ⟨o21, b9, hs⟩ := bind_some hs
 refine wp_block ?_
 refine wp_iter (id := 0) (I := fun s17 a a3 => ∃ (σ : Nat → Value) (a4 : List Nat), a = fr 27 (ovl σ [(0, (.int .i64 s17.1)), (2, (.int .i64 n)), (7, (.slice a0 a1 a2)), (8, (.int .i64 s17.2.1))]) ∧ Chg [] w a3 ∧ Own (Nw w []) M a3 (a4 ++ []) ∧ (RT.os 3 (RT.int .i64)).val M a3 (.slice a0 a1 a2) s17.2.2 a4) (J := fun s17 a a3 => ∃ (σ : Nat → Value) (a6 : List Nat), a = fr 27 (ovl σ [(7, (.slice a0 a1 a2))]) ∧ Chg [] w a3 ∧ Own (Nw w []) M a3 (a6 ++ []) ∧ (RT.os 3 (RT.int .i64)).val M a3 (.slice a0 a1 a2) s17.2.2 a6) (K := (k_impl_argsAt M w)) ?_ FU (i, w64 (k - 1), y2) o21 _ _ ?_ b9 ?_
 ·rintro s17 o21 a a3 ⟨σ, a4, rfl, hC, hO, a5⟩ hs
  refine c_seq ?_
  refine c_sr ?_
  refine pl_val (.int .i64 s17.2.1) (y_move rfl) ?_
  refine pl_val (.bool (decide (0 ≤ s17.2.1))) (y_geq rfl rfl) ?_
  refine c_nil ?_
  rcases bif_some hs with ⟨a9, hs⟩ | ⟨a9, hs⟩
  ·refine c_condT (congrArg Value.bool a9) ?_
   refine wp_skip ?_
   refine c_seq ?_
   refine wp_block ?_
   refine c_sr ?_
   refine pl_val (.slice a0 a1 a2) (y_move rfl) ?_
   refine pl_val (.int .i64 s17.2.1) (y_move rfl) ?_
   refine pl_val (.int .i64 s17.1) (y_move rfl) ?_
   refine pl_val (.int .i64 n) (y_move rfl) ?_
   obtain ⟨u26, c0, hs⟩ := bind_some hs
   refine pl_val (.int .i64 (Int.tmod s17.1 n)) (y_rem rfl rfl (nz_ne c0)) ?_
   obtain ⟨x27, c1, hs⟩ := bind_some hs
   obtain ⟨b2, d1, b3, c2, c3, d2, d3⟩ := os_idx Sl25 Sz3 a5 c1
   refine pl_val (.pointer (some ⟨b2, 0 + Int.toNat s17.2.1 * 1, none⟩)) (c3 _ _ _ _ _ _ _ _ _ rfl rfl) ?_
   obtain ⟨c4, c5, c6, b4, c7, b0⟩ := os_store (P := Try.prog) (c' := [(.int .i64 (Int.tmod s17.1 n))]) b3 a5 c2 (fun g hg => hO.inM g (os_block a5 g (by simpa using hg))) ⟨rfl, rfl⟩ List.nodup_nil (fun _ h => nomatch h) (fun _ h => .inl h)
   have c8 : ∀ q ∈ [b2], q ∈ a4 := fun q hq => os_block a5 q (by rw [b3]; exact hq)
   refine pl_skip (w' := c4) (ys_store rfl rfl (c6 _ _ rfl Sz3)) ?_
   have hC := hC.st b4 hO c8
   have hO := hO.grow b4 (fun q hq => .inl ((c7 q hq).resolve_right (fun h => nomatch h))) (os_nodup b0) b0.fpl
   refine c_nil ?_
   refine c_region ?_
   refine pl_val (.int .i64 s17.1) (y_move rfl) ?_
   refine pl_val (.int .i64 n) (y_move rfl) ?_
   obtain ⟨u30, c9, hs⟩ := bind_some hs
   refine pl_val (.int .i64 (w64 (Int.tdiv s17.1 n))) (y_quo rfl rfl (nz_ne c9)) ?_
   refine pl_val (.int .i64 (w64 (Int.tdiv s17.1 n))) (y_assign rfl) ?_
   refine c_nil ?_
   refine c_region ?_
   refine pl_val (.int .i64 s17.2.1) (y_move rfl) ?_
   refine pl_val (.int .i64 (w64 (s17.2.1 - 1))) (y_sub rfl rfl) ?_
   refine pl_val (.int .i64 (w64 (s17.2.1 - 1))) (y_assign rfl) ?_
   refine c_nil ?_
   cases hs
   exact ⟨_, c5, fr_ovl 27 ⟨rfl, rfl, rfl, rfl, trivial⟩, hC, hO, b0⟩
  refine c_condF (congrArg Value.bool a9) ?_
  refine wp_exit ?_
  cases hs
  exact ⟨rfl, _, a4, fr_ovl 27 ⟨rfl, trivial⟩, hC, hO, a5⟩
 ·skip
  exact ⟨_, b6, fr_ovl 27 ⟨rfl, rfl, rfl, rfl, trivial⟩, hC, hO, a8⟩
 cases o21 with
 | nx _ => exact True.intro
 | rt r_ =>
  have hs := after_rt hs
  intro a0 a7 hK
  cases hs
  exact hK
 | br s17 =>
  have hs := after_br hs
  rintro a0 a3 ⟨σ, a6, rfl, hC, hO, d0⟩
  refine c_sr ?_
  refine pl_val (.slice a0 a1 a2) (y_move rfl) ?_
  refine pl_val (.slice a0 a1 a2) (y_assign rfl) ?_
  refine c_nil ?_
  refine wp_ret ?_
  cases hs
  exact ⟨_, a0, a1, a2, a6, fr_ovl 27 ⟨rfl, trivial⟩, hC, d0, hO.top⟩

theorem Bd89 : Bodied Try.prog 89 := bodied Try.func89 (by kernel_rfl) rfl

def k_impl_projection (M : Nat → Prop) (w0 : World) (r : (List Int)) (a : Act) (w : World) : Prop :=
  ∃ (σ : Nat → Value) (ra0 : Option Addr) (rn0 rc0 : Nat) (rf0 : List Nat), a = fr 30 (ovl σ [(6, (.slice ra0 rn0 rc0))]) ∧ Chg [] w0 w ∧ (RT.os 3 (RT.int .i64)).val M w (.slice ra0 rn0 rc0) r rf0 ∧ Own (Nw w0 []) (fun _ => True) w (rf0 ++ ([]))
def s_impl_projection (n : Int) (k : Int) (place : Int) : Option ((List Int)) :=
  (s_impl_power n k).bind fun r2 =>
  (mks r2 (0 : Int)).bind fun y4 =>
  (forC (S := (List Int)) (R := (List Int)) (fun k25 s23 =>
  (s_impl_argsAt k25 k n).bind fun r32 =>
  (idx r32 place).bind fun x34 =>
  (idx s23 k25).bind fun x36 =>
  some (.nx (List.set s23 (Int.toNat k25) x34))) 0 (y4.length : Int) y4).bind fun o27 => after o27 (fun r_ => some r_) (fun s23 =>
  some s23)
set_option maxHeartbeats 4000000 in
theorem c_impl_projection {M : Nat → Prop} {w : World}  (n : Int) (k : Int) (place : Int)  (hM : ∀ g, w.heap.size ≤ g → M g) {r : (List Int)} (hs : s_impl_projection n k place = some r) :
    Gives Try.prog 68 [(.int .i64 n), (.int .i64 k), (.int .i64 place)] w (fun v w' => ∃ (ra0 : Option Addr) (rn0 rc0 : Nat) (rf0 : List Nat), v = (.slice ra0 rn0 rc0) ∧ Chg [] w w' ∧ (RT.os 3 (RT.int .i64)).val M w' (.slice ra0 rn0 rc0) r rf0 ∧ Own (Nw w []) (fun _ => True) w' (rf0 ++ ([]))) := by
 refine calls_fr Try.func68 rfl Try.ntmps68 (Nat.le_of_ble_eq_true rfl) ?_
 have hO := Own.start (N := Nw w []) hM Nw.fut
 have hC := Chg.refl [] w
 unfold s_impl_projection at hs
 refine wp_mono (Q := KPost (k_impl_projection M w r)) ?_ (fun e a a8 h => ?_)
 rotate_left
 ·cases e
  case ret =>
   obtain ⟨σ, ra0, rn0, rc0, rf0, rfl, hrest⟩ := h
   exact ret1x Try.results68 (res_tmp rfl) ⟨ra0, rn0, rc0, rf0, rfl, hrest⟩
  all_goals exact (h : False).elim
 refine c_sr ?_
 refine pl_val (.slice none 0 0) (y_assign rfl) ?_
 refine c_nil ?_
 refine c_sr ?_
 refine pl_val (.int .i64 n) (y_move rfl) ?_
 refine pl_val (.int .i64 k) (y_move rfl) ?_
 obtain ⟨r2, b8, hs⟩ := bind_some hs
 refine pl_call Bd66 rfl (c_impl_power (M := M) n k  hO.fut b8) ?_
 rintro _ a8 ⟨rfl, b3⟩
 have hC := hC.ext b3
 have hO := hO.ext b3
 obtain ⟨y4, b9, hs⟩ := bind_some hs
 obtain ⟨a0, a1, a2, c0, c1, c2, b4, c3, a6⟩ := mk_os (M := M) (w := a8) (r := (RT.int .i64)) Rw25 b9 (fun _ _ => ⟨rfl, rfl⟩)
 refine pl_val (w' := c0) (.slice a0 a1 a2) (y_make rfl rfl c2) ?_
 have hC := hC.ext b4
 have hO := hO.new b4 c3 (os_nodup a6) a6.fpl
 refine pl_val (.slice a0 a1 a2) (y_assign rfl) ?_
 refine c_nil ?_
 refine c_seq ?_
 refine c_sr ?_
 refine pl_val (.slice a0 a1 a2) (y_move rfl) ?_
 refine pl_val (.int .i64 (y4.length : Int)) (y_len' Sl25 (os_len a6) rfl) ?_
 refine pl_val (.int .i64 0) (y_move rfl) ?_
 refine c_nil ?_
 obtain ⟨o27, c4, hs⟩ := bind_some hs
 refine wp_block ?_
 refine wp_forC (id := 0) (y4.length : Int) (I := fun k25 s23 a a3 => ∃ (σ : Nat → Value) (a5 : List Nat), a = fr 30 (ovl σ [(0, (.int .i64 n)), (1, (.int .i64 k)), (2, (.int .i64 place)), (7, (.slice a0 a1 a2)), (14, (.int .i64 (y4.length : Int))), (15, (.int .i64 k25))]) ∧ Chg [] w a3 ∧ Own (Nw w []) M a3 (a5 ++ []) ∧ (RT.os 3 (RT.int .i64)).val M a3 (.slice a0 a1 a2) s23 a5) (J := fun s23 a a3 => ∃ (σ : Nat → Value) (a7 : List Nat), a = fr 30 (ovl σ [(7, (.slice a0 a1 a2))]) ∧ Chg [] w a3 ∧ Own (Nw w []) M a3 (a7 ++ []) ∧ (RT.os 3 (RT.int .i64)).val M a3 (.slice a0 a1 a2) s23 a7) (K := (k_impl_projection M w)) ?_ ?_ 0 y4 o27 _ _ ?_ c4 ?_
 ·rintro k25 s23 a a3 ⟨σ, a5, rfl, hC, hO, a4⟩ hlt
  refine c_sr ?_
  refine pl_val (.bool (decide (k25 < (y4.length : Int)))) (y_lss rfl rfl) ?_
  refine c_nil ?_
  refine c_seq ?_
  refine c_condF (congrArg Value.bool (decide_eq_false hlt)) ?_
  refine wp_exit ?_
  exact ⟨rfl, _, a5, fr_ovl 30 ⟨rfl, trivial⟩, hC, hO, a4⟩
 ·rintro k25 s23 o27 a a3 ⟨σ, a5, rfl, hC, hO, a4⟩ hlt hw hs
  refine c_sr ?_
  refine pl_val (.bool (decide (k25 < (y4.length : Int)))) (y_lss rfl rfl) ?_
  refine c_nil ?_
  refine c_seq ?_
  refine c_condT (congrArg Value.bool (decide_eq_true hlt)) ?_
  refine wp_skip ?_
  refine c_seq ?_
  refine wp_block ?_
  refine c_sr ?_
  refine pl_val (.int .i64 k25) (y_move rfl) ?_
  refine pl_val (.int .i64 k25) (y_assign rfl) ?_
  refine c_nil ?_
  refine c_region ?_
  refine pl_val (.slice a0 a1 a2) (y_move rfl) ?_
  refine pl_val (.int .i64 k25) (y_move rfl) ?_
  refine pl_val (.int .i64 k25) (y_move rfl) ?_
  refine pl_val (.int .i64 k) (y_move rfl) ?_
  refine pl_val (.int .i64 n) (y_move rfl) ?_
  obtain ⟨r32, c5, hs⟩ := bind_some hs
  refine pl_call Bd89 rfl (c_impl_argsAt (M := M) k25 k n  hO.fut c5) ?_
  rintro _ e1 ⟨e2, e3, e4, c6, rfl, a9, b0, c7⟩
  have a4 := a4.ext a9
  have hC := hC.ext a9
  have hO := Own.join0 hO a9 c7
  have hO := hO.perm (R := c6 ++ (a5 ++ ([]))) (by simp)
  refine pl_val (.int .i64 place) (y_move rfl) ?_
  obtain ⟨x34, c8, hs⟩ := bind_some hs
  obtain ⟨c9, e5, e6, e7, d0, d1, e8⟩ := os_idx Sl25 Sz3 b0 c8
  refine pl_val (.pointer (some ⟨c9, 0 + Int.toNat place * 1, none⟩)) (d0 _ _ _ _ _ _ _ _ _ rfl rfl) ?_
  refine pl_val (.int .i64 x34) (y_load rfl ((at_load_int Ag3 Sz3 d1) _ (Chg.refl _ _))) ?_
  obtain ⟨x36, d2, hs⟩ := bind_some hs
  obtain ⟨b5, e9, b6, d3, d4, f0, f1⟩ := os_idx Sl25 Sz3 a4 d2
  refine pl_val (.pointer (some ⟨b5, 0 + Int.toNat k25 * 1, none⟩)) (d4 _ _ _ _ _ _ _ _ _ rfl rfl) ?_
  have hO := hO.fr1
  obtain ⟨d5, d6, d7, b1, d8, b2⟩ := os_store (P := Try.prog) (c' := [(.int .i64 x34)]) b6 a4 d3 (fun g hg => hO.inM g (os_block a4 g (by simpa using hg))) ⟨rfl, rfl⟩ List.nodup_nil (fun _ h => nomatch h) (fun _ h => .inl h)
  have b7 : ∀ q ∈ [b5], q ∈ a5 := fun q hq => os_block a4 q (by rw [b6]; exact hq)
  refine pl_skip (w' := d5) (ys_store rfl rfl (d7 _ _ rfl Sz3)) ?_
  have b0 := b0.ma b1 hO b7 (fun _ e => (mem_l (e)))
  have hC := hC.st b1 hO b7
  have hO := hO.grow b1 (fun q hq => .inl ((d8 q hq).resolve_right (fun h => nomatch h))) (os_nodup b2) b2.fpl
  refine c_nil ?_
  refine c_region ?_
  refine pl_val (.int .i64 (w64 (k25 + 1))) (y_add rfl rfl) ?_
  refine pl_val (.int .i64 (w64 (k25 + 1))) (y_move rfl) ?_
  refine c_nil ?_
  cases hs
  have hO := hO.fr1
  have hO := hO.drop
  exact ⟨_, d6, fr_ovl 30 ⟨rfl, rfl, rfl, rfl, rfl, congrArg (Value.int .i64) hw, trivial⟩, hC, hO, b2⟩
 ·skip
  exact ⟨_, c1, fr_ovl 30 ⟨rfl, rfl, rfl, rfl, rfl, rfl, trivial⟩, hC, hO, a6⟩
 cases o27 with
 | nx _ => exact True.intro
 | rt r_ =>
  have hs := after_rt hs
  intro d9 a8 hK
  cases hs
  exact hK
 | br s23 =>
  have hs := after_br hs
  rintro d9 a3 ⟨σ, a7, rfl, hC, hO, e0⟩
  refine c_sr ?_
  refine pl_val (.slice a0 a1 a2) (y_move rfl) ?_
  refine pl_val (.slice a0 a1 a2) (y_assign rfl) ?_
  refine c_nil ?_
  refine wp_ret ?_
  cases hs
  exact ⟨_, a0, a1, a2, a7, fr_ovl 30 ⟨rfl, trivial⟩, hC, e0, hO.top⟩

theorem Bd68 : Bodied Try.prog 68 := bodied Try.func68 (by kernel_rfl) rfl

def k_impl_firsts (M : Nat → Prop) (w0 : World) (r : (List Int)) (a : Act) (w : World) : Prop :=
  ∃ (σ : Nat → Value) (ra0 : Option Addr) (rn0 rc0 : Nat) (rf0 : List Nat), a = fr 5 (ovl σ [(2, (.slice ra0 rn0 rc0))]) ∧ Chg [] w0 w ∧ (RT.os 3 (RT.int .i64)).val M w (.slice ra0 rn0 rc0) r rf0 ∧ Own (Nw w0 []) (fun _ => True) w (rf0 ++ ([]))
def s_impl_firsts (n : Int) : Option ((List Int)) :=
  (s_impl_projection n 2 0).bind fun r2 =>
  some r2
set_option maxHeartbeats 4000000 in
theorem c_impl_firsts {M : Nat → Prop} {w : World}  (n : Int)  (hM : ∀ g, w.heap.size ≤ g → M g) {r : (List Int)} (hs : s_impl_firsts n = some r) :
    Gives Try.prog 39 [(.int .i64 n)] w (fun v w' => ∃ (ra0 : Option Addr) (rn0 rc0 : Nat) (rf0 : List Nat), v = (.slice ra0 rn0 rc0) ∧ Chg [] w w' ∧ (RT.os 3 (RT.int .i64)).val M w' (.slice ra0 rn0 rc0) r rf0 ∧ Own (Nw w []) (fun _ => True) w' (rf0 ++ ([]))) := by
 refine calls_fr Try.func39 rfl Try.ntmps39 (Nat.le_of_ble_eq_true rfl) ?_
 have hO := Own.start (N := Nw w []) hM Nw.fut
 have hC := Chg.refl [] w
 unfold s_impl_firsts at hs
 refine wp_mono (Q := KPost (k_impl_firsts M w r)) ?_ (fun e a a5 h => ?_)
 rotate_left
 ·cases e
  case ret =>
   obtain ⟨σ, ra0, rn0, rc0, rf0, rfl, hrest⟩ := h
   exact ret1x Try.results39 (res_tmp rfl) ⟨ra0, rn0, rc0, rf0, rfl, hrest⟩
  all_goals exact (h : False).elim
 refine c_sr ?_
 refine pl_val (.slice none 0 0) (y_assign rfl) ?_
 refine c_nil ?_
 refine c_sr ?_
 refine pl_val (.int .i64 n) (y_move rfl) ?_
 obtain ⟨r2, a6, hs⟩ := bind_some hs
 refine pl_call Bd68 rfl (c_impl_projection (M := M) n 2 0  hO.fut a6) ?_
 rintro _ a5 ⟨a0, a1, a2, a3, rfl, a4, a7, a8⟩
 have hC := hC.ext a4
 have hO := Own.join0 hO a4 a8
 have hO := hO.perm (R := a3 ++ ([])) (by simp)
 refine pl_val (.slice a0 a1 a2) (y_assign rfl) ?_
 refine c_nil ?_
 refine wp_ret ?_
 cases hs
 exact ⟨_, a0, a1, a2, a3, fr_ovl 5 ⟨rfl, trivial⟩, hC, a7, hO.top⟩

def k_impl_seconds (M : Nat → Prop) (w0 : World) (r : (List Int)) (a : Act) (w : World) : Prop :=
  ∃ (σ : Nat → Value) (ra0 : Option Addr) (rn0 rc0 : Nat) (rf0 : List Nat), a = fr 5 (ovl σ [(2, (.slice ra0 rn0 rc0))]) ∧ Chg [] w0 w ∧ (RT.os 3 (RT.int .i64)).val M w (.slice ra0 rn0 rc0) r rf0 ∧ Own (Nw w0 []) (fun _ => True) w (rf0 ++ ([]))
def s_impl_seconds (n : Int) : Option ((List Int)) :=
  (s_impl_projection n 2 1).bind fun r2 =>
  some r2
set_option maxHeartbeats 4000000 in
theorem c_impl_seconds {M : Nat → Prop} {w : World}  (n : Int)  (hM : ∀ g, w.heap.size ≤ g → M g) {r : (List Int)} (hs : s_impl_seconds n = some r) :
    Gives Try.prog 40 [(.int .i64 n)] w (fun v w' => ∃ (ra0 : Option Addr) (rn0 rc0 : Nat) (rf0 : List Nat), v = (.slice ra0 rn0 rc0) ∧ Chg [] w w' ∧ (RT.os 3 (RT.int .i64)).val M w' (.slice ra0 rn0 rc0) r rf0 ∧ Own (Nw w []) (fun _ => True) w' (rf0 ++ ([]))) := by
 refine calls_fr Try.func40 rfl Try.ntmps40 (Nat.le_of_ble_eq_true rfl) ?_
 have hO := Own.start (N := Nw w []) hM Nw.fut
 have hC := Chg.refl [] w
 unfold s_impl_seconds at hs
 refine wp_mono (Q := KPost (k_impl_seconds M w r)) ?_ (fun e a a5 h => ?_)
 rotate_left
 ·cases e
  case ret =>
   obtain ⟨σ, ra0, rn0, rc0, rf0, rfl, hrest⟩ := h
   exact ret1x Try.results40 (res_tmp rfl) ⟨ra0, rn0, rc0, rf0, rfl, hrest⟩
  all_goals exact (h : False).elim
 refine c_sr ?_
 refine pl_val (.slice none 0 0) (y_assign rfl) ?_
 refine c_nil ?_
 refine c_sr ?_
 refine pl_val (.int .i64 n) (y_move rfl) ?_
 obtain ⟨r2, a6, hs⟩ := bind_some hs
 refine pl_call Bd68 rfl (c_impl_projection (M := M) n 2 1  hO.fut a6) ?_
 rintro _ a5 ⟨a0, a1, a2, a3, rfl, a4, a7, a8⟩
 have hC := hC.ext a4
 have hO := Own.join0 hO a4 a8
 have hO := hO.perm (R := a3 ++ ([])) (by simp)
 refine pl_val (.slice a0 a1 a2) (y_assign rfl) ?_
 refine c_nil ?_
 refine wp_ret ?_
 cases hs
 exact ⟨_, a0, a1, a2, a3, fr_ovl 5 ⟨rfl, trivial⟩, hC, a7, hO.top⟩

def k_impl_compose (M : Nat → Prop) (w0 : World) (r : (List Int)) (a : Act) (w : World) : Prop :=
  ∃ (σ : Nat → Value) (ra0 : Option Addr) (rn0 rc0 : Nat) (rf0 : List Nat), a = fr 27 (ovl σ [(4, (.slice ra0 rn0 rc0))]) ∧ Chg [] w0 w ∧ (RT.os 3 (RT.int .i64)).val M w (.slice ra0 rn0 rc0) r rf0 ∧ Own (Nw w0 []) (fun _ => True) w (rf0 ++ ([]))
def s_impl_compose (f : List Int) (g : List Int) : Option ((List Int)) :=
  (mks (f.length : Int) (0 : Int)).bind fun y4 =>
  (forC (S := (List Int)) (R := (List Int)) (fun k23 s21 =>
  (idx f k23).bind fun x29 =>
  (idx g x29).bind fun x31 =>
  (idx s21 k23).bind fun x33 =>
  some (.nx (List.set s21 (Int.toNat k23) x31))) 0 (f.length : Int) y4).bind fun o25 => after o25 (fun r_ => some r_) (fun s21 =>
  some s21)
set_option maxHeartbeats 4000000 in
theorem c_impl_compose {M : Nat → Prop} {w : World} {pa0 : Option Addr} {pn0 pc0 : Nat} {pa1 : Option Addr} {pn1 pc1 : Nat} (f : List Int) (g : List Int) (h0 : (RT.rs (RT.int .i64)).val M w (.slice pa0 pn0 pc0) f ([])) (h1 : (RT.rs (RT.int .i64)).val M w (.slice pa1 pn1 pc1) g ([])) (hM : ∀ g, w.heap.size ≤ g → M g) {r : (List Int)} (hs : s_impl_compose f g = some r) :
    Gives Try.prog 91 [(.slice pa0 pn0 pc0), (.slice pa1 pn1 pc1)] w (fun v w' => ∃ (ra0 : Option Addr) (rn0 rc0 : Nat) (rf0 : List Nat), v = (.slice ra0 rn0 rc0) ∧ Chg [] w w' ∧ (RT.os 3 (RT.int .i64)).val M w' (.slice ra0 rn0 rc0) r rf0 ∧ Own (Nw w []) (fun _ => True) w' (rf0 ++ ([]))) := by
 refine calls_fr Try.func91 rfl Try.ntmps91 (Nat.le_of_ble_eq_true rfl) ?_
 have hO := Own.start (N := Nw w []) hM Nw.fut
 have hC := Chg.refl [] w
 unfold s_impl_compose at hs
 refine wp_mono (Q := KPost (k_impl_compose M w r)) ?_ (fun e a b4 h => ?_)
 rotate_left
 ·cases e
  case ret =>
   obtain ⟨σ, ra0, rn0, rc0, rf0, rfl, hrest⟩ := h
   exact ret1x Try.results91 (res_tmp rfl) ⟨ra0, rn0, rc0, rf0, rfl, hrest⟩
  all_goals exact (h : False).elim
 refine c_sr ?_
 refine pl_val (.slice none 0 0) (y_assign rfl) ?_
 refine c_nil ?_
 refine c_sr ?_
 refine pl_val (.slice pa0 pn0 pc0) (y_move rfl) ?_
 refine pl_val (.int .i64 (f.length : Int)) (y_len' Sl25 (rs_len h0) rfl) ?_
 obtain ⟨y4, b5, hs⟩ := bind_some hs
 obtain ⟨a1, a2, a3, b6, b7, b8, a6, b9, a9⟩ := mk_os (M := M) (w := w) (r := (RT.int .i64)) Rw25 b5 (fun _ _ => ⟨rfl, rfl⟩)
 refine pl_val (w' := b6) (.slice a1 a2 a3) (y_make rfl rfl b8) ?_
 have h0 := h0.ext a6
 have h1 := h1.ext a6
 have hC := hC.ext a6
 have hO := hO.new a6 b9 (os_nodup a9) a9.fpl
 refine pl_val (.slice a1 a2 a3) (y_assign rfl) ?_
 refine c_nil ?_
 refine c_seq ?_
 refine c_sr ?_
 refine pl_val (.slice pa0 pn0 pc0) (y_move rfl) ?_
 refine pl_val (.int .i64 (f.length : Int)) (y_len' Sl25 (rs_len h0) rfl) ?_
 refine pl_val (.int .i64 0) (y_move rfl) ?_
 refine c_nil ?_
 obtain ⟨o25, c0, hs⟩ := bind_some hs
 refine wp_block ?_
 refine wp_forC (id := 0) (f.length : Int) (I := fun k23 s21 a a0 => ∃ (σ : Nat → Value) (a4 : List Nat), a = fr 27 (ovl σ [(1, (.slice pa1 pn1 pc1)), (5, (.slice a1 a2 a3)), (11, (.slice pa0 pn0 pc0)), (12, (.int .i64 (f.length : Int))), (13, (.int .i64 k23))]) ∧ Chg [] w a0 ∧ Own (Nw w []) M a0 (a4 ++ []) ∧ (RT.rs (RT.int .i64)).val M a0 (.slice pa0 pn0 pc0) f ([]) ∧ (RT.rs (RT.int .i64)).val M a0 (.slice pa1 pn1 pc1) g ([]) ∧ (RT.os 3 (RT.int .i64)).val M a0 (.slice a1 a2 a3) s21 a4) (J := fun s21 a a0 => ∃ (σ : Nat → Value) (a7 : List Nat), a = fr 27 (ovl σ [(5, (.slice a1 a2 a3))]) ∧ Chg [] w a0 ∧ Own (Nw w []) M a0 (a7 ++ []) ∧ (RT.rs (RT.int .i64)).val M a0 (.slice pa0 pn0 pc0) f ([]) ∧ (RT.rs (RT.int .i64)).val M a0 (.slice pa1 pn1 pc1) g ([]) ∧ (RT.os 3 (RT.int .i64)).val M a0 (.slice a1 a2 a3) s21 a7) (K := (k_impl_compose M w)) ?_ ?_ 0 y4 o25 _ _ ?_ c0 ?_
 ·rintro k23 s21 a a0 ⟨σ, a4, rfl, hC, hO, h0, h1, a5⟩ hlt
  refine c_sr ?_
  refine pl_val (.bool (decide (k23 < (f.length : Int)))) (y_lss rfl rfl) ?_
  refine c_nil ?_
  refine c_seq ?_
  refine c_condF (congrArg Value.bool (decide_eq_false hlt)) ?_
  refine wp_exit ?_
  exact ⟨rfl, _, a4, fr_ovl 27 ⟨rfl, trivial⟩, hC, hO, h0, h1, a5⟩
 ·rintro k23 s21 o25 a a0 ⟨σ, a4, rfl, hC, hO, h0, h1, a5⟩ hlt hw hs
  refine c_sr ?_
  refine pl_val (.bool (decide (k23 < (f.length : Int)))) (y_lss rfl rfl) ?_
  refine c_nil ?_
  refine c_seq ?_
  refine c_condT (congrArg Value.bool (decide_eq_true hlt)) ?_
  refine wp_skip ?_
  refine c_seq ?_
  refine wp_block ?_
  refine c_sr ?_
  refine pl_val (.int .i64 k23) (y_move rfl) ?_
  obtain ⟨x29, c1, hs⟩ := bind_some hs
  obtain ⟨c2, c3, c4, c5⟩ := rs_idx Sl25 Sz3 h0 c1
  refine pl_val (.pointer (some ⟨c2, c3, none⟩)) (c4 _ _ _ _ _ _ _ _ _ rfl rfl) ?_
  refine pl_val (.int .i64 x29) (y_load rfl ((at_load_int Ag3 Sz3 c5) _ (Chg.refl _ _))) ?_
  refine pl_val (.int .i64 k23) (y_assign rfl) ?_
  refine pl_val (.int .i64 x29) (y_assign rfl) ?_
  refine c_nil ?_
  refine c_region ?_
  refine pl_val (.slice a1 a2 a3) (y_move rfl) ?_
  refine pl_val (.int .i64 k23) (y_move rfl) ?_
  refine pl_val (.slice pa1 pn1 pc1) (y_move rfl) ?_
  refine pl_val (.int .i64 x29) (y_move rfl) ?_
  obtain ⟨x31, c6, hs⟩ := bind_some hs
  obtain ⟨c7, c8, c9, d0⟩ := rs_idx Sl25 Sz3 h1 c6
  refine pl_val (.pointer (some ⟨c7, c8, none⟩)) (c9 _ _ _ _ _ _ _ _ _ rfl rfl) ?_
  refine pl_val (.int .i64 x31) (y_load rfl ((at_load_int Ag3 Sz3 d0) _ (Chg.refl _ _))) ?_
  obtain ⟨x33, d1, hs⟩ := bind_some hs
  obtain ⟨b2, e0, b3, d2, d3, e1, e2⟩ := os_idx Sl25 Sz3 a5 d1
  refine pl_val (.pointer (some ⟨b2, 0 + Int.toNat k23 * 1, none⟩)) (d3 _ _ _ _ _ _ _ _ _ rfl rfl) ?_
  obtain ⟨d4, d5, d6, a8, d7, b0⟩ := os_store (P := Try.prog) (c' := [(.int .i64 x31)]) b3 a5 d2 (fun g hg => hO.inM g (os_block a5 g (by simpa using hg))) ⟨rfl, rfl⟩ List.nodup_nil (fun _ h => nomatch h) (fun _ h => .inl h)
  have b1 : ∀ q ∈ [b2], q ∈ a4 := fun q hq => os_block a5 q (by rw [b3]; exact hq)
  refine pl_skip (w' := d4) (ys_store rfl rfl (d6 _ _ rfl Sz3)) ?_
  have h0 := h0.mt a8 hO b1
  have h1 := h1.mt a8 hO b1
  have hC := hC.st a8 hO b1
  have hO := hO.grow a8 (fun q hq => .inl ((d7 q hq).resolve_right (fun h => nomatch h))) (os_nodup b0) b0.fpl
  refine c_nil ?_
  refine c_region ?_
  refine pl_val (.int .i64 (w64 (k23 + 1))) (y_add rfl rfl) ?_
  refine pl_val (.int .i64 (w64 (k23 + 1))) (y_move rfl) ?_
  refine c_nil ?_
  cases hs
  exact ⟨_, d5, fr_ovl 27 ⟨rfl, rfl, rfl, rfl, congrArg (Value.int .i64) hw, trivial⟩, hC, hO, h0, h1, b0⟩
 ·skip
  exact ⟨_, b7, fr_ovl 27 ⟨rfl, rfl, rfl, rfl, rfl, trivial⟩, hC, hO, h0, h1, a9⟩
 cases o25 with
 | nx _ => exact True.intro
 | rt r_ =>
  have hs := after_rt hs
  intro d8 b4 hK
  cases hs
  exact hK
 | br s21 =>
  have hs := after_br hs
  rintro d8 a0 ⟨σ, a7, rfl, hC, hO, h0, h1, d9⟩
  refine c_sr ?_
  refine pl_val (.slice a1 a2 a3) (y_move rfl) ?_
  refine pl_val (.slice a1 a2 a3) (y_assign rfl) ?_
  refine c_nil ?_
  refine wp_ret ?_
  cases hs
  exact ⟨_, a1, a2, a3, a7, fr_ovl 27 ⟨rfl, trivial⟩, hC, d9, hO.top⟩

def k_impl_indexOf (M : Nat → Prop) (w0 : World) (r : Int) (a : Act) (w : World) : Prop :=
  ∃ (σ : Nat → Value) , a = fr 21 (ovl σ [(4, (.int .i64 r))]) ∧ Chg [] w0 w
def s_impl_indexOf (args : List Int) (n : Int) : Option (Int) :=
  (forR (S := Int) (R := Int) (fun _ x6 s3 =>
  some (.nx (w64 ((w64 (s3 * n)) + x6)))) 0 args 0).bind fun o7 => after o7 (fun r_ => some r_) (fun s3 =>
  some s3)
set_option maxHeartbeats 4000000 in
theorem c_impl_indexOf {M : Nat → Prop} {w : World} {pa0 : Option Addr} {pn0 pc0 : Nat} (args : List Int) (n : Int) (h0 : (RT.rs (RT.int .i64)).val M w (.slice pa0 pn0 pc0) args ([])) (hM : ∀ g, w.heap.size ≤ g → M g) {r : Int} (hs : s_impl_indexOf args n = some r) :
    Gives Try.prog 90 [(.slice pa0 pn0 pc0), (.int .i64 n)] w (fun v w' => v = (.int .i64 r) ∧ Chg [] w w') := by
 refine calls_fr Try.func90 rfl Try.ntmps90 (Nat.le_of_ble_eq_true rfl) ?_
 have hO := Own.start (N := Nw w []) hM Nw.fut
 have hC := Chg.refl [] w
 unfold s_impl_indexOf at hs
 refine wp_mono (Q := KPost (k_impl_indexOf M w r)) ?_ (fun e a a2 h => ?_)
 rotate_left
 ·cases e
  case ret =>
   obtain ⟨σ, rfl, hrest⟩ := h
   exact ret1x Try.results90 (res_tmp rfl) ⟨rfl, hrest⟩
  all_goals exact (h : False).elim
 refine c_sr ?_
 refine pl_val (.int .i64 0) (y_assign rfl) ?_
 refine c_nil ?_
 refine c_sr ?_
 refine pl_val (.int .i64 0) (y_assign rfl) ?_
 refine c_nil ?_
 refine c_seq ?_
 refine c_sr ?_
 refine pl_val (.slice pa0 pn0 pc0) (y_move rfl) ?_
 refine pl_val (.int .i64 (args.length : Int)) (y_len' Sl25 (rs_len h0) rfl) ?_
 refine pl_val (.int .i64 0) (y_move rfl) ?_
 refine c_nil ?_
 obtain ⟨o7, a3, hs⟩ := bind_some hs
 refine wp_block ?_
 refine wp_forR (id := 0) (I := fun i_ xs_ s3 a a0 => ∃ a1 : Nat, i_ = (a1 : Int) ∧ List.drop a1 args = xs_ ∧ (∃ (σ : Nat → Value), a = fr 21 (ovl σ [(1, (.int .i64 n)), (5, (.int .i64 s3)), (8, (.slice pa0 pn0 pc0)), (9, (.int .i64 (args.length : Int))), (10, (.int .i64 (a1 : Int)))]) ∧ Chg [] w a0 ∧ Own (Nw w []) M a0 ([]) ∧ (RT.rs (RT.int .i64)).val M a0 (.slice pa0 pn0 pc0) args ([]))) (J := fun s3 a a0 => ∃ (σ : Nat → Value), a = fr 21 (ovl σ [(5, (.int .i64 s3))]) ∧ Chg [] w a0 ∧ Own (Nw w []) M a0 ([]) ∧ (RT.rs (RT.int .i64)).val M a0 (.slice pa0 pn0 pc0) args ([])) (K := (k_impl_indexOf M w)) ?_ ?_ args 0 0 o7 _ _ ?_ a3 ?_
 ·rintro _ s3 a a0 ⟨a1, rfl, hd, σ, rfl, hC, hO, h0⟩
  have hlt := drop_nil_ge hd
  refine c_sr ?_
  refine pl_val (.bool (decide ((a1 : Int) < (args.length : Int)))) (y_lss rfl rfl) ?_
  refine c_nil ?_
  refine c_seq ?_
  refine c_condF (congrArg Value.bool (decide_eq_false hlt)) ?_
  refine wp_exit ?_
  exact ⟨rfl, _, fr_ovl 21 ⟨rfl, trivial⟩, hC, hO, h0⟩
 ·rintro _ x6 xs_ s3 o7 a a0 ⟨a1, rfl, hd, σ, rfl, hC, hO, h0⟩ hs
  have hlt := drop_cons_lt hd
  have a4 := drop_cons_idx hd
  refine c_sr ?_
  refine pl_val (.bool (decide ((a1 : Int) < (args.length : Int)))) (y_lss rfl rfl) ?_
  refine c_nil ?_
  refine c_seq ?_
  refine c_condT (congrArg Value.bool (decide_eq_true hlt)) ?_
  refine wp_skip ?_
  refine c_seq ?_
  refine wp_block ?_
  refine c_sr ?_
  obtain ⟨a5, a6, a7, a8⟩ := rs_idx Sl25 Sz3 h0 a4
  refine pl_val (.pointer (some ⟨a5, a6, none⟩)) (a7 _ _ _ _ _ _ _ _ _ rfl rfl) ?_
  refine pl_val (.int .i64 x6) (y_load rfl ((at_load_int Ag3 Sz3 a8) _ (Chg.refl _ _))) ?_
  refine pl_val (.int .i64 x6) (y_assign rfl) ?_
  refine c_nil ?_
  refine c_region ?_
  refine pl_val (.int .i64 s3) (y_move rfl) ?_
  refine pl_val (.int .i64 n) (y_move rfl) ?_
  refine pl_val (.int .i64 (w64 (s3 * n))) (y_mul rfl rfl) ?_
  refine pl_val (.int .i64 x6) (y_move rfl) ?_
  refine pl_val (.int .i64 (w64 ((w64 (s3 * n)) + x6))) (y_add rfl rfl) ?_
  refine pl_val (.int .i64 (w64 ((w64 (s3 * n)) + x6))) (y_assign rfl) ?_
  refine c_nil ?_
  refine c_region ?_
  refine pl_val (.int .i64 (w64 ((a1 : Int) + 1))) (y_add rfl rfl) ?_
  refine pl_val (.int .i64 (w64 ((a1 : Int) + 1))) (y_move rfl) ?_
  refine c_nil ?_
  cases hs
  exact ⟨_, rfl, drop_cons_next hd, _, fr_ovl 21 ⟨rfl, rfl, rfl, rfl, congrArg (Value.int .i64) (w64_succ hlt (Int.natCast_nonneg _) (rs_max h0)), trivial⟩, hC, hO, h0⟩
 ·skip
  exact ⟨0, rfl, rfl, _, fr_ovl 21 ⟨rfl, rfl, rfl, rfl, rfl, trivial⟩, hC, hO, h0⟩
 cases o7 with
 | nx _ => exact True.intro
 | rt r_ =>
  have hs := after_rt hs
  intro a9 a2 hK
  cases hs
  exact hK
 | br s3 =>
  have hs := after_br hs
  rintro a9 a0 ⟨σ, rfl, hC, hO, h0⟩
  refine c_sr ?_
  refine pl_val (.int .i64 s3) (y_move rfl) ?_
  refine pl_val (.int .i64 s3) (y_assign rfl) ?_
  refine c_nil ?_
  refine wp_ret ?_
  cases hs
  exact ⟨_, fr_ovl 21 ⟨rfl, trivial⟩, hC⟩

theorem Bd91 : Bodied Try.prog 91 := bodied Try.func91 (by kernel_rfl) rfl

theorem Bd90 : Bodied Try.prog 90 := bodied Try.func90 (by kernel_rfl) rfl

end Go.Proofs
