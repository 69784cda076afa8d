/- What functions of the program compute, as plain functions, and that a call gives just that. Conditions: those named in each theorem. -/
import Derived.Test.YtdbfekcoaappnaaGPtr
import Derived.Test.YtdbfekcoaappnaaRows
set_option linter.unusedVariables false
namespace Go.Proofs
open Go.G Go.RowKit
set_option maxRecDepth 100000

theorem Sl22 : SlT Try.prog 22 5 := Try.underlying22

def k_laws_vBig (M : Nat → Prop) (w0 : World) (r : Bool) (a : Act) (w : World) : Prop :=
  ∃ (σ : Nat → Value) , a = fr 6 (ovl σ [(2, (.bool r))]) ∧ Chg [] w0 w
def s_laws_vBig (code : List Int) : Option (Bool) :=
  some (decide (65536 < (code.length : Int)))
set_option maxHeartbeats 4000000 in
theorem c_laws_vBig {M : Nat → Prop} {w : World} {pa0 : Option Addr} {pn0 pc0 : Nat} (code : List Int) (h0 : (RT.rs (RT.int .u8)).val M w (.slice pa0 pn0 pc0) code ([])) (hM : ∀ g, w.heap.size ≤ g → M g) {r : Bool} (hs : s_laws_vBig code = some r) :
    Gives Try.prog 5 [(.slice pa0 pn0 pc0)] w (fun v w' => v = (.bool r) ∧ Chg [] w w') := by
 refine calls_fr Try.func5 rfl Try.ntmps5 (Nat.le_of_ble_eq_true rfl) ?_
 have hO := Own.start (N := Nw w []) hM Nw.fut
 have hC := Chg.refl [] w
 unfold s_laws_vBig at hs
 refine wp_mono (Q := KPost (k_laws_vBig M w r)) ?_ (fun e a a0 h => ?_)
 rotate_left
 ·cases e
  case ret =>
   obtain ⟨σ, rfl, hrest⟩ := h
   exact ret1x Try.results5 (res_tmp rfl) ⟨rfl, hrest⟩
  all_goals exact (h : False).elim
 refine c_sr ?_
 refine pl_val (.bool false) (y_assign rfl) ?_
 refine c_nil ?_
 refine c_sr ?_
 refine pl_val (.slice pa0 pn0 pc0) (y_move rfl) ?_
 refine pl_val (.int .i64 (code.length : Int)) (y_len' Sl22 (rs_len h0) rfl) ?_
 refine pl_val (.bool (decide (65536 < (code.length : Int)))) (y_gtr rfl rfl) ?_
 refine pl_val (.bool (decide (65536 < (code.length : Int)))) (y_assign rfl) ?_
 refine c_nil ?_
 refine wp_ret ?_
 cases hs
 exact ⟨_, fr_ovl 6 ⟨rfl, trivial⟩, hC⟩

theorem Mx : Try.prog.follows .mixedOrders = true := by kernel_rfl

theorem Fa53x1 : ∀ (a : Addr) (w : World), (Instr.fieldAt 53 (.pointer (some a)) 1).run Try.prog w = .ok (.pointer (some (a.add 1))) w := fun _ _ => by kernel_rfl

theorem Ag3 : AggT Try.prog 3 false := fun _ => by kernel_rfl

theorem Sz3 : SzT Try.prog 3 1 := ⟨_, rfl, rfl⟩

theorem Fa53x0 : ∀ (a : Addr) (w : World), (Instr.fieldAt 53 (.pointer (some a)) 0).run Try.prog w = .ok (.pointer (some (a.add 0))) w := fun _ _ => by kernel_rfl

theorem Ag22 : AggT Try.prog 22 false := fun _ => by kernel_rfl

theorem Sz22 : SzT Try.prog 22 1 := ⟨_, rfl, rfl⟩

theorem Sz5 : SzT Try.prog 5 1 := ⟨_, rfl, rfl⟩

theorem Ag5 : AggT Try.prog 5 false := fun _ => by kernel_rfl

theorem Fa53x2 : ∀ (a : Addr) (w : World), (Instr.fieldAt 53 (.pointer (some a)) 2).run Try.prog w = .ok (.pointer (some (a.add 2))) w := fun _ _ => by kernel_rfl

theorem Ag51 : AggT Try.prog 51 false := fun _ => by kernel_rfl

theorem Sz51 : SzT Try.prog 51 1 := ⟨_, rfl, rfl⟩

def k_spec_l1Cur__next (M : Nat → Prop) (w0 : World) (vg0 : Nat) (va0x0 : Option Addr) (vn0x0 vc0x0 : Nat) (b0 : (List Int) × Int × Int) (r : Int × Int × Int) (a : Act) (w : World) : Prop :=
  ∃ (σ : Nat → Value) , a = fr 62 (ovl σ [(2, (.int .i64 r.1))]) ∧ Chg ([vg0] ++ ([])) w0 w ∧ BoxV w vg0 53 [(.slice va0x0 vn0x0 vc0x0), (.int .i64 r.2.1), (.int .u64 r.2.2)] ∧ Own (Nw w0 ([vg0] ++ ([]))) (fun _ => True) w ([vg0] ++ ([]))
def s_spec_l1Cur__next (b0 : (List Int) × Int × Int) : Option (Int × Int × Int) :=
  (bif (decide (b0.2.1 < (b0.1.length : Int))) then (idx b0.1 b0.2.1).bind fun x16 =>
  some (w64 x16) else some 0).bind fun s11 =>
  (bif (decide ((w64 (b0.2.1 + 1)) ≤ (b0.1.length : Int))) then some (s11, w64 (b0.2.1 + 1), IntKind.u64.wrap ((IntKind.u64.wrap ((IntKind.u64.wrap (b0.2.2 * 6364136223846793005)) + (IntKind.u64.wrap s11))) + 550289)) else some (w64 (iand .u64 (ishr .u64 (IntKind.u64.wrap ((IntKind.u64.wrap ((IntKind.u64.wrap (b0.2.2 * 6364136223846793005)) + (IntKind.u64.wrap s11))) + 550289)) 40) 255), w64 (b0.2.1 + 1), IntKind.u64.wrap ((IntKind.u64.wrap ((IntKind.u64.wrap (b0.2.2 * 6364136223846793005)) + (IntKind.u64.wrap s11))) + 550289)))
set_option maxHeartbeats 4000000 in
theorem c_spec_l1Cur__next {M : Nat → Prop} {w : World} {vg0 : Nat} {va0x0 : Option Addr} {vn0x0 vc0x0 : Nat} (b0 : (List Int) × Int × Int) (hb0 : BoxV w vg0 53 [(.slice va0x0 vn0x0 vc0x0), (.int .i64 b0.2.1), (.int .u64 b0.2.2)]) (hl0x0 : (RT.rs (RT.int .u8)).val M w (.slice va0x0 vn0x0 vc0x0) b0.1 ([])) (hI : Own (Nw w ([vg0] ++ ([]))) M w ([vg0] ++ ([]))) (hM : ∀ g, w.heap.size ≤ g → M g) {r : Int × Int × Int} (hs : s_spec_l1Cur__next b0 = some r) :
    Gives Try.prog 88 [(.pointer (some ⟨vg0, 0, none⟩))] w (fun v w' => v = (.int .i64 r.1) ∧ Chg ([vg0] ++ ([])) w w' ∧ BoxV w' vg0 53 [(.slice va0x0 vn0x0 vc0x0), (.int .i64 r.2.1), (.int .u64 r.2.2)] ∧ Own (Nw w ([vg0] ++ ([]))) (fun _ => True) w' ([vg0] ++ ([]))) := by
 refine calls_fr Try.func88 rfl Try.ntmps88 (Nat.le_of_ble_eq_true rfl) ?_
 have hO := hI
 have hC := Chg.refl ([vg0] ++ ([])) w
 unfold s_spec_l1Cur__next at hs
 refine wp_mono (Q := KPost (k_spec_l1Cur__next M w vg0 va0x0 vn0x0 vc0x0 b0 r)) ?_ (fun e a c4 h => ?_)
 rotate_left
 ·cases e
  case ret =>
   obtain ⟨σ, rfl, hrest⟩ := h
   exact ret1x Try.results88 (res_tmp rfl) ⟨rfl, hrest⟩
  all_goals exact (h : False).elim
 refine c_sr ?_
 refine pl_val (.int .i64 0) (y_assign rfl) ?_
 refine c_nil ?_
 refine c_sr ?_
 refine pl_val (.int .i64 0) (y_assign rfl) ?_
 refine c_nil ?_
 refine c_seq ?_
 refine c_seq ?_
 refine x_start [] Mx rfl ?_
 have a1 := Chg.drew w
 generalize World.drew w = a7 at a1 ⊢
 have hl0x0 := hl0x0.ext a1
 have hb0 := hb0.cn a1
 have hC := hC.ext a1
 have hO := hO.ext a1
 have hS := Chg.refl [] a7
 refine x_p 0 (.pointer (some ⟨vg0, 0, none⟩)) rfl (by kernel_rfl)  (fun _ => y_move rfl) (fun _ => hS) ?_
 refine x_p 1 (.pointer (some ⟨vg0, 0, none⟩)) rfl (by kernel_rfl)  (fun _ => y_nilc rfl) (fun _ => hS) ?_
 refine x_p 2 (.pointer (some ⟨vg0, 1, none⟩)) rfl (by kernel_rfl)  (fun _ => y_faddr rfl Fa53x1) (fun _ => hS) ?_
 refine x_l 3 (.int .i64 b0.2.1) rfl (by kernel_rfl)  (fun w' hw' => y_load rfl ((box_load Ag3 Sz3 hb0 [(.slice va0x0 vn0x0 vc0x0)] [(.int .i64 b0.2.1)] [(.int .u64 b0.2.2)] rfl rfl (fun _ => rfl)) w' hw')) hS ?_
 refine x_p 4 (.pointer (some ⟨vg0, 0, none⟩)) rfl (by kernel_rfl)  (fun _ => y_move rfl) (fun _ => hS) ?_
 refine x_p 5 (.pointer (some ⟨vg0, 0, none⟩)) rfl (by kernel_rfl)  (fun _ => y_nilc rfl) (fun _ => hS) ?_
 refine x_p 6 (.pointer (some ⟨vg0, 0, none⟩)) rfl (by kernel_rfl)  (fun _ => y_faddr rfl Fa53x0) (fun _ => hS) ?_
 refine x_l 7 (.slice va0x0 vn0x0 vc0x0) rfl (by kernel_rfl)  (fun w' hw' => y_load rfl ((box_load Ag22 Sz22 hb0 [] [(.slice va0x0 vn0x0 vc0x0)] [(.int .i64 b0.2.1), (.int .u64 b0.2.2)] rfl rfl (fun _ => rfl)) w' hw')) hS ?_
 refine x_p 8 (.int .i64 (b0.1.length : Int)) rfl (by kernel_rfl)  (fun _ => y_len' Sl22 (rs_len hl0x0) rfl) (fun _ => hS) ?_
 refine x_p 9 (.bool (decide (b0.2.1 < (b0.1.length : Int)))) rfl (by kernel_rfl)  (fun _ => y_lss rfl rfl) (fun _ => hS) ?_
 refine x_end (by kernel_rfl) ?_
 clear hS
 obtain ⟨s11, b4, hs⟩ := bind_some hs
 refine c_mid (I := fun a a2 => ∃ (σ : Nat → Value), a = fr 62 (ovl σ [(0, (.pointer (some ⟨vg0, 0, none⟩))), (3, (.int .i64 s11))]) ∧ Chg ([vg0] ++ ([])) w a2 ∧ Own (Nw w ([vg0] ++ ([]))) M a2 (([vg0]) ++ []) ∧ (RT.rs (RT.int .u8)).val M a2 (.slice va0x0 vn0x0 vc0x0) b0.1 ([]) ∧ BoxV a2 vg0 53 [(.slice va0x0 vn0x0 vc0x0), (.int .i64 b0.2.1), (.int .u64 b0.2.2)]) ?_ ?_
 ·replace hs := b4
  rcases bif_some hs with ⟨a8, hs⟩ | ⟨a8, hs⟩
  ·refine c_condT (congrArg Value.bool a8) ?_
   refine x_start [] Mx rfl ?_
   have a3 := Chg.drew a7
   generalize World.drew a7 = b5 at a3 ⊢
   have hl0x0 := hl0x0.ext a3
   have hb0 := hb0.cn a3
   have hC := hC.ext a3
   have hO := hO.ext a3
   have hS := Chg.refl [] b5
   refine x_p 0 (.pointer (some ⟨vg0, 0, none⟩)) rfl (by kernel_rfl)  (fun _ => y_move rfl) (fun _ => hS) ?_
   refine x_p 1 (.pointer (some ⟨vg0, 0, none⟩)) rfl (by kernel_rfl)  (fun _ => y_nilc rfl) (fun _ => hS) ?_
   refine x_p 2 (.pointer (some ⟨vg0, 0, none⟩)) rfl (by kernel_rfl)  (fun _ => y_faddr rfl Fa53x0) (fun _ => hS) ?_
   refine x_l 3 (.slice va0x0 vn0x0 vc0x0) rfl (by kernel_rfl)  (fun w' hw' => y_load rfl ((box_load Ag22 Sz22 hb0 [] [(.slice va0x0 vn0x0 vc0x0)] [(.int .i64 b0.2.1), (.int .u64 b0.2.2)] rfl rfl (fun _ => rfl)) w' hw')) hS ?_
   refine x_p 4 (.pointer (some ⟨vg0, 0, none⟩)) rfl (by kernel_rfl)  (fun _ => y_move rfl) (fun _ => hS) ?_
   refine x_p 5 (.pointer (some ⟨vg0, 0, none⟩)) rfl (by kernel_rfl)  (fun _ => y_nilc rfl) (fun _ => hS) ?_
   refine x_p 6 (.pointer (some ⟨vg0, 1, none⟩)) rfl (by kernel_rfl)  (fun _ => y_faddr rfl Fa53x1) (fun _ => hS) ?_
   refine x_l 7 (.int .i64 b0.2.1) rfl (by kernel_rfl)  (fun w' hw' => y_load rfl ((box_load Ag3 Sz3 hb0 [(.slice va0x0 vn0x0 vc0x0)] [(.int .i64 b0.2.1)] [(.int .u64 b0.2.2)] rfl rfl (fun _ => rfl)) w' hw')) hS ?_
   obtain ⟨x16, b6, hs⟩ := bind_some hs
   obtain ⟨b7, b8, b9, c0⟩ := rs_idx Sl22 Sz5 hl0x0 b6
   refine x_p 8 (.pointer (some ⟨b7, b8, none⟩)) rfl (by kernel_rfl)  (fun _ => b9 _ _ _ _ _ _ _ _ _ rfl rfl) (fun _ => hS) ?_
   refine x_l 9 (.int .u8 x16) rfl (by kernel_rfl)  (fun w' hw' => y_load rfl ((at_load_int Ag5 Sz5 c0) w' hw')) hS ?_
   refine x_one (i := 10) (by kernel_rfl) ?_
   refine xk_val (b := false) (.int .i64 (w64 x16)) rfl  (y_conv_int Try.underlying5 Try.underlying3 rfl) rfl (fun _ => hS) ?_
   refine x_p 11 (.int .i64 (w64 x16)) rfl (by kernel_rfl)  (fun _ => y_assign rfl) (fun _ => hS) ?_
   refine x_end (by kernel_rfl) ?_
   clear hS
   cases hs
   exact ⟨_, fr_ovl 62 ⟨rfl, rfl, trivial⟩, hC, hO, hl0x0, hb0⟩
  refine c_condF (congrArg Value.bool a8) ?_
  refine wp_skip ?_
  cases hs
  exact ⟨_, fr_ovl 62 ⟨rfl, rfl, trivial⟩, hC, hO, hl0x0, hb0⟩
 rintro c5 a2 ⟨σ, rfl, hC, hO, hl0x0, hb0⟩
 refine c_sr ?_
 refine pl_val (.pointer (some ⟨vg0, 0, none⟩)) (y_move rfl) ?_
 refine pl_val (.pointer (some ⟨vg0, 0, none⟩)) (y_nilc rfl) ?_
 refine pl_val (.pointer (some ⟨vg0, 1, none⟩)) (y_faddr rfl Fa53x1) ?_
 refine pl_val (.int .i64 b0.2.1) (y_load rfl ((box_load Ag3 Sz3 hb0 [(.slice va0x0 vn0x0 vc0x0)] [(.int .i64 b0.2.1)] [(.int .u64 b0.2.2)] rfl rfl (fun _ => rfl)) _ (Chg.refl _ _))) ?_
 refine pl_val (.int .i64 (w64 (b0.2.1 + 1))) (y_add rfl rfl) ?_
 refine pl_val (.pointer (some ⟨vg0, 0, none⟩)) (y_nilc rfl) ?_
 refine pl_val (.pointer (some ⟨vg0, 1, none⟩)) (y_faddr rfl Fa53x1) ?_
 obtain ⟨b3, c1, a9, a5⟩ := box_store (P := Try.prog) hb0 [(.slice va0x0 vn0x0 vc0x0)] [(.int .i64 b0.2.1)] [(.int .u64 b0.2.2)] [(.int .i64 (w64 (b0.2.1 + 1)))] rfl rfl (by intro u hu; simp only [List.mem_cons, List.not_mem_nil, or_false] at hu; rcases hu with rfl <;> rfl)
 refine pl_skip (w' := b3) (ys_store rfl rfl (c1 _ _ rfl Sz3)) ?_
 have hl0x0 := hl0x0.mt a9 hO same_
 have hC := hC.st a9 hO same_
 have hO := hO.ext a9
 have a5 : BoxV b3 vg0 53 [(.slice va0x0 vn0x0 vc0x0), (.int .i64 (w64 (b0.2.1 + 1))), (.int .u64 b0.2.2)] := a5
 refine c_nil ?_
 refine c_sr ?_
 refine pl_val (.pointer (some ⟨vg0, 0, none⟩)) (y_move rfl) ?_
 refine pl_val (.pointer (some ⟨vg0, 0, none⟩)) (y_move rfl) ?_
 refine pl_val (.pointer (some ⟨vg0, 0, none⟩)) (y_nilc rfl) ?_
 refine pl_val (.pointer (some ⟨vg0, 2, none⟩)) (y_faddr rfl Fa53x2) ?_
 refine pl_val (.int .u64 b0.2.2) (y_load rfl ((box_load Ag51 Sz51 a5 [(.slice va0x0 vn0x0 vc0x0), (.int .i64 (w64 (b0.2.1 + 1)))] [(.int .u64 b0.2.2)] [] rfl rfl (fun _ => rfl)) _ (Chg.refl _ _))) ?_
 refine pl_val (.int .u64 (IntKind.u64.wrap (b0.2.2 * 6364136223846793005))) (y_mul rfl rfl) ?_
 refine pl_val (.int .i64 s11) (y_move rfl) ?_
 refine pl_val (.int .u64 (IntKind.u64.wrap s11)) (y_conv_int Try.underlying3 Try.underlying51 rfl) ?_
 refine pl_val (.int .u64 (IntKind.u64.wrap ((IntKind.u64.wrap (b0.2.2 * 6364136223846793005)) + (IntKind.u64.wrap s11)))) (y_add rfl rfl) ?_
 refine pl_val (.int .u64 (IntKind.u64.wrap ((IntKind.u64.wrap ((IntKind.u64.wrap (b0.2.2 * 6364136223846793005)) + (IntKind.u64.wrap s11))) + 550289))) (y_add rfl rfl) ?_
 refine pl_val (.pointer (some ⟨vg0, 0, none⟩)) (y_nilc rfl) ?_
 refine pl_val (.pointer (some ⟨vg0, 2, none⟩)) (y_faddr rfl Fa53x2) ?_
 obtain ⟨a6, c2, b1, a0⟩ := box_store (P := Try.prog) a5 [(.slice va0x0 vn0x0 vc0x0), (.int .i64 (w64 (b0.2.1 + 1)))] [(.int .u64 b0.2.2)] [] [(.int .u64 (IntKind.u64.wrap ((IntKind.u64.wrap ((IntKind.u64.wrap (b0.2.2 * 6364136223846793005)) + (IntKind.u64.wrap s11))) + 550289)))] rfl rfl (by intro u hu; simp only [List.mem_cons, List.not_mem_nil, or_false] at hu; rcases hu with rfl <;> rfl)
 refine pl_skip (w' := a6) (ys_store rfl rfl (c2 _ _ rfl Sz51)) ?_
 have hl0x0 := hl0x0.mt b1 hO same_
 have hC := hC.st b1 hO same_
 have hO := hO.ext b1
 have a0 : BoxV a6 vg0 53 [(.slice va0x0 vn0x0 vc0x0), (.int .i64 (w64 (b0.2.1 + 1))), (.int .u64 (IntKind.u64.wrap ((IntKind.u64.wrap ((IntKind.u64.wrap (b0.2.2 * 6364136223846793005)) + (IntKind.u64.wrap s11))) + 550289)))] := a0
 refine c_nil ?_
 refine c_seq ?_
 refine c_seq ?_
 refine x_start [] Mx rfl ?_
 have a4 := Chg.drew a6
 generalize World.drew a6 = c3 at a4 ⊢
 have hl0x0 := hl0x0.ext a4
 have a0 := a0.cn a4
 have hC := hC.ext a4
 have hO := hO.ext a4
 have hS := Chg.refl [] c3
 refine x_p 0 (.pointer (some ⟨vg0, 0, none⟩)) rfl (by kernel_rfl)  (fun _ => y_move rfl) (fun _ => hS) ?_
 refine x_p 1 (.pointer (some ⟨vg0, 0, none⟩)) rfl (by kernel_rfl)  (fun _ => y_nilc rfl) (fun _ => hS) ?_
 refine x_p 2 (.pointer (some ⟨vg0, 1, none⟩)) rfl (by kernel_rfl)  (fun _ => y_faddr rfl Fa53x1) (fun _ => hS) ?_
 refine x_l 3 (.int .i64 (w64 (b0.2.1 + 1))) rfl (by kernel_rfl)  (fun w' hw' => y_load rfl ((box_load Ag3 Sz3 a0 [(.slice va0x0 vn0x0 vc0x0)] [(.int .i64 (w64 (b0.2.1 + 1)))] [(.int .u64 (IntKind.u64.wrap ((IntKind.u64.wrap ((IntKind.u64.wrap (b0.2.2 * 6364136223846793005)) + (IntKind.u64.wrap s11))) + 550289)))] rfl rfl (fun _ => rfl)) w' hw')) hS ?_
 refine x_p 4 (.pointer (some ⟨vg0, 0, none⟩)) rfl (by kernel_rfl)  (fun _ => y_move rfl) (fun _ => hS) ?_
 refine x_p 5 (.pointer (some ⟨vg0, 0, none⟩)) rfl (by kernel_rfl)  (fun _ => y_nilc rfl) (fun _ => hS) ?_
 refine x_p 6 (.pointer (some ⟨vg0, 0, none⟩)) rfl (by kernel_rfl)  (fun _ => y_faddr rfl Fa53x0) (fun _ => hS) ?_
 refine x_l 7 (.slice va0x0 vn0x0 vc0x0) rfl (by kernel_rfl)  (fun w' hw' => y_load rfl ((box_load Ag22 Sz22 a0 [] [(.slice va0x0 vn0x0 vc0x0)] [(.int .i64 (w64 (b0.2.1 + 1))), (.int .u64 (IntKind.u64.wrap ((IntKind.u64.wrap ((IntKind.u64.wrap (b0.2.2 * 6364136223846793005)) + (IntKind.u64.wrap s11))) + 550289)))] rfl rfl (fun _ => rfl)) w' hw')) hS ?_
 refine x_p 8 (.int .i64 (b0.1.length : Int)) rfl (by kernel_rfl)  (fun _ => y_len' Sl22 (rs_len hl0x0) rfl) (fun _ => hS) ?_
 refine x_p 9 (.bool (decide ((w64 (b0.2.1 + 1)) ≤ (b0.1.length : Int)))) rfl (by kernel_rfl)  (fun _ => y_leq rfl rfl) (fun _ => hS) ?_
 refine x_end (by kernel_rfl) ?_
 clear hS
 rcases bif_some hs with ⟨b2, hs⟩ | ⟨b2, hs⟩
 ·refine c_condT (congrArg Value.bool b2) ?_
  refine c_sr ?_
  refine pl_val (.int .i64 s11) (y_move rfl) ?_
  refine pl_val (.int .i64 s11) (y_assign rfl) ?_
  refine c_nil ?_
  refine wp_ret ?_
  cases hs
  exact ⟨_, fr_ovl 62 ⟨rfl, trivial⟩, hC, a0, hO.top⟩
 refine c_condF (congrArg Value.bool b2) ?_
 refine wp_skip ?_
 refine c_sr ?_
 refine pl_val (.pointer (some ⟨vg0, 0, none⟩)) (y_move rfl) ?_
 refine pl_val (.pointer (some ⟨vg0, 0, none⟩)) (y_nilc rfl) ?_
 refine pl_val (.pointer (some ⟨vg0, 2, none⟩)) (y_faddr rfl Fa53x2) ?_
 refine pl_val (.int .u64 (IntKind.u64.wrap ((IntKind.u64.wrap ((IntKind.u64.wrap (b0.2.2 * 6364136223846793005)) + (IntKind.u64.wrap s11))) + 550289))) (y_load rfl ((box_load Ag51 Sz51 a0 [(.slice va0x0 vn0x0 vc0x0), (.int .i64 (w64 (b0.2.1 + 1)))] [(.int .u64 (IntKind.u64.wrap ((IntKind.u64.wrap ((IntKind.u64.wrap (b0.2.2 * 6364136223846793005)) + (IntKind.u64.wrap s11))) + 550289)))] [] rfl rfl (fun _ => rfl)) _ (Chg.refl _ _))) ?_
 refine pl_val (.int .u64 (ishr .u64 (IntKind.u64.wrap ((IntKind.u64.wrap ((IntKind.u64.wrap (b0.2.2 * 6364136223846793005)) + (IntKind.u64.wrap s11))) + 550289)) 40)) (y_shr rfl rfl (by decide)) ?_
 refine pl_val (.int .u64 (iand .u64 (ishr .u64 (IntKind.u64.wrap ((IntKind.u64.wrap ((IntKind.u64.wrap (b0.2.2 * 6364136223846793005)) + (IntKind.u64.wrap s11))) + 550289)) 40) 255)) (y_and rfl rfl) ?_
 refine pl_val (.int .i64 (w64 (iand .u64 (ishr .u64 (IntKind.u64.wrap ((IntKind.u64.wrap ((IntKind.u64.wrap (b0.2.2 * 6364136223846793005)) + (IntKind.u64.wrap s11))) + 550289)) 40) 255))) (y_conv_int Try.underlying51 Try.underlying3 rfl) ?_
 refine pl_val (.int .i64 (w64 (iand .u64 (ishr .u64 (IntKind.u64.wrap ((IntKind.u64.wrap ((IntKind.u64.wrap (b0.2.2 * 6364136223846793005)) + (IntKind.u64.wrap s11))) + 550289)) 40) 255))) (y_assign rfl) ?_
 refine c_nil ?_
 refine wp_ret ?_
 cases hs
 exact ⟨_, fr_ovl 62 ⟨rfl, trivial⟩, hC, a0, hO.top⟩

theorem Bd88 : Bodied Try.prog 88 := bodied Try.func88 (by kernel_rfl) rfl

def k_spec_l1Cur__pick (M : Nat → Prop) (w0 : World) (vg0 : Nat) (va0x0 : Option Addr) (vn0x0 vc0x0 : Nat) (n : Int) (b0 : (List Int) × Int × Int) (r : Int × Int × Int) (a : Act) (w : World) : Prop :=
  ∃ (σ : Nat → Value) , a = fr 20 (ovl σ [(4, (.int .i64 r.1))]) ∧ Chg ([vg0] ++ ([])) w0 w ∧ BoxV w vg0 53 [(.slice va0x0 vn0x0 vc0x0), (.int .i64 r.2.1), (.int .u64 r.2.2)] ∧ Own (Nw w0 ([vg0] ++ ([]))) (fun _ => True) w ([vg0] ++ ([]))
def s_spec_l1Cur__pick (n : Int) (b0 : (List Int) × Int × Int) : Option (Int × Int × Int) :=
  (bif (decide (n ≤ 1)) then some (0, b0.2.1, b0.2.2) else (s_spec_l1Cur__next (b0.1, b0.2.1, b0.2.2)).bind fun r5 =>
  (bif (decide (200 < n)) then (s_spec_l1Cur__next (b0.1, r5.2.1, r5.2.2)).bind fun r8 =>
  (nz n).bind fun u9 =>
  some (Int.tmod (w64 ((w64 (r5.1 * 256)) + r8.1)) n, r8.2.1, r8.2.2) else (nz n).bind fun u10 =>
  some (Int.tmod r5.1 n, r5.2.1, r5.2.2)))
set_option maxHeartbeats 4000000 in
theorem c_spec_l1Cur__pick {M : Nat → Prop} {w : World} {vg0 : Nat} {va0x0 : Option Addr} {vn0x0 vc0x0 : Nat} (n : Int) (b0 : (List Int) × Int × Int) (hb0 : BoxV w vg0 53 [(.slice va0x0 vn0x0 vc0x0), (.int .i64 b0.2.1), (.int .u64 b0.2.2)]) (hl0x0 : (RT.rs (RT.int .u8)).val M w (.slice va0x0 vn0x0 vc0x0) b0.1 ([])) (hI : Own (Nw w ([vg0] ++ ([]))) M w ([vg0] ++ ([]))) (hM : ∀ g, w.heap.size ≤ g → M g) {r : Int × Int × Int} (hs : s_spec_l1Cur__pick n b0 = some r) :
    Gives Try.prog 62 [(.pointer (some ⟨vg0, 0, none⟩)), (.int .i64 n)] w (fun v w' => v = (.int .i64 r.1) ∧ Chg ([vg0] ++ ([])) w w' ∧ BoxV w' vg0 53 [(.slice va0x0 vn0x0 vc0x0), (.int .i64 r.2.1), (.int .u64 r.2.2)] ∧ Own (Nw w ([vg0] ++ ([]))) (fun _ => True) w' ([vg0] ++ ([]))) := by
 refine calls_fr Try.func62 rfl Try.ntmps62 (Nat.le_of_ble_eq_true rfl) ?_
 have hO := hI
 have hC := Chg.refl ([vg0] ++ ([])) w
 unfold s_spec_l1Cur__pick at hs
 refine wp_mono (Q := KPost (k_spec_l1Cur__pick M w vg0 va0x0 vn0x0 vc0x0 n b0 r)) ?_ (fun e a b9 h => ?_)
 rotate_left
 ·cases e
  case ret =>
   obtain ⟨σ, rfl, hrest⟩ := h
   exact ret1x Try.results62 (res_tmp rfl) ⟨rfl, hrest⟩
  all_goals exact (h : False).elim
 refine c_sr ?_
 refine pl_val (.int .i64 0) (y_assign rfl) ?_
 refine c_nil ?_
 refine c_seq ?_
 refine c_sr ?_
 refine pl_val (.int .i64 n) (y_move rfl) ?_
 refine pl_val (.bool (decide (n ≤ 1))) (y_leq rfl rfl) ?_
 refine c_nil ?_
 rcases bif_some hs with ⟨a1, hs⟩ | ⟨a1, hs⟩
 ·refine c_condT (congrArg Value.bool a1) ?_
  refine c_sr ?_
  refine pl_val (.int .i64 0) (y_assign rfl) ?_
  refine c_nil ?_
  refine wp_ret ?_
  cases hs
  exact ⟨_, fr_ovl 20 ⟨rfl, trivial⟩, hC, hb0, hO.top⟩
 refine c_condF (congrArg Value.bool a1) ?_
 refine wp_skip ?_
 refine c_sr ?_
 refine pl_val (.pointer (some ⟨vg0, 0, none⟩)) (y_move rfl) ?_
 have a8 := hO
 have a6 := Own.lend (F := (([vg0]) ++ ([]))) (R := []) (Own.perm (a8) (by simp))
 obtain ⟨r5, a9, hs⟩ := bind_some hs
 refine pl_call Bd88 rfl (c_spec_l1Cur__next (M := M) (b0.1, b0.2.1, b0.2.2) (show BoxV _ vg0 53 [(.slice va0x0 vn0x0 vc0x0), (.int .i64 b0.2.1), (.int .u64 b0.2.2)] from hb0) hl0x0 a6 a6.fut a9) ?_
 rintro _ b1 ⟨rfl, a2, a0, b2⟩
 have hO := hO.perm (R := (([vg0]) ++ ([])) ++ ([])) (by simp)
 have hl0x0 := hl0x0.mt a2 hO same_
 have hC := hC.st a2 hO same_
 have hO := Own.join hO a2 b2
 have hO := hO.perm (R := [vg0] ++ ([])) (by simp)
 have a0 : BoxV b1 vg0 53 [(.slice va0x0 vn0x0 vc0x0), (.int .i64 r5.2.1), (.int .u64 r5.2.2)] := a0
 refine pl_val (.int .i64 r5.1) (y_assign rfl) ?_
 refine c_nil ?_
 refine c_seq ?_
 refine c_sr ?_
 refine pl_val (.int .i64 n) (y_move rfl) ?_
 refine pl_val (.bool (decide (200 < n))) (y_gtr rfl rfl) ?_
 refine c_nil ?_
 rcases bif_some hs with ⟨a3, hs⟩ | ⟨a3, hs⟩
 ·refine c_condT (congrArg Value.bool a3) ?_
  refine c_region ?_
  refine pl_val (.int .i64 r5.1) (y_move rfl) ?_
  refine pl_val (.int .i64 (w64 (r5.1 * 256))) (y_mul rfl rfl) ?_
  refine pl_val (.pointer (some ⟨vg0, 0, none⟩)) (y_move rfl) ?_
  have b3 := hO
  have a7 := Own.lend (F := (([vg0]) ++ ([]))) (R := []) (Own.perm (b3) (by simp))
  obtain ⟨r8, b4, hs⟩ := bind_some hs
  refine pl_call Bd88 rfl (c_spec_l1Cur__next (M := M) (b0.1, r5.2.1, r5.2.2) (show BoxV _ vg0 53 [(.slice va0x0 vn0x0 vc0x0), (.int .i64 r5.2.1), (.int .u64 r5.2.2)] from a0) hl0x0 a7 a7.fut b4) ?_
  rintro _ b5 ⟨rfl, a4, a5, b6⟩
  have hO := hO.perm (R := (([vg0]) ++ ([])) ++ ([])) (by simp)
  have hl0x0 := hl0x0.mt a4 hO same_
  have hC := hC.st a4 hO same_
  have hO := Own.join hO a4 b6
  have hO := hO.perm (R := [vg0] ++ ([])) (by simp)
  have a5 : BoxV b5 vg0 53 [(.slice va0x0 vn0x0 vc0x0), (.int .i64 r8.2.1), (.int .u64 r8.2.2)] := a5
  refine pl_val (.int .i64 (w64 ((w64 (r5.1 * 256)) + r8.1))) (y_add rfl rfl) ?_
  refine pl_val (.int .i64 (w64 ((w64 (r5.1 * 256)) + r8.1))) (y_assign rfl) ?_
  refine c_nil ?_
  refine c_sr ?_
  refine pl_val (.int .i64 (w64 ((w64 (r5.1 * 256)) + r8.1))) (y_move rfl) ?_
  refine pl_val (.int .i64 n) (y_move rfl) ?_
  obtain ⟨u9, b7, hs⟩ := bind_some hs
  refine pl_val (.int .i64 (Int.tmod (w64 ((w64 (r5.1 * 256)) + r8.1)) n)) (y_rem rfl rfl (nz_ne b7)) ?_
  refine pl_val (.int .i64 (Int.tmod (w64 ((w64 (r5.1 * 256)) + r8.1)) n)) (y_assign rfl) ?_
  refine c_nil ?_
  refine wp_ret ?_
  cases hs
  exact ⟨_, fr_ovl 20 ⟨rfl, trivial⟩, hC, a5, hO.top⟩
 refine c_condF (congrArg Value.bool a3) ?_
 refine wp_skip ?_
 refine c_sr ?_
 refine pl_val (.int .i64 r5.1) (y_move rfl) ?_
 refine pl_val (.int .i64 n) (y_move rfl) ?_
 obtain ⟨u10, b8, hs⟩ := bind_some hs
 refine pl_val (.int .i64 (Int.tmod r5.1 n)) (y_rem rfl rfl (nz_ne b8)) ?_
 refine pl_val (.int .i64 (Int.tmod r5.1 n)) (y_assign rfl) ?_
 refine c_nil ?_
 refine wp_ret ?_
 cases hs
 exact ⟨_, fr_ovl 20 ⟨rfl, trivial⟩, hC, a0, hO.top⟩

theorem Sl25 : SlT Try.prog 25 3 := Try.underlying25

theorem Bd62 : Bodied Try.prog 62 := bodied Try.func62 (by kernel_rfl) rfl

def k_spec_l1Cur__among (M : Nat → Prop) (w0 : World) (vg0 : Nat) (pa0 : Option Addr) (pn0 pc0 : Nat) (va0x0 : Option Addr) (vn0x0 vc0x0 : Nat) (list : List Int) (b0 : (List Int) × Int × Int) (r : Int × Int × Int) (a : Act) (w : World) : Prop :=
  ∃ (σ : Nat → Value) , a = fr 12 (ovl σ [(4, (.int .i64 r.1))]) ∧ Chg ([vg0] ++ ([])) w0 w ∧ BoxV w vg0 53 [(.slice va0x0 vn0x0 vc0x0), (.int .i64 r.2.1), (.int .u64 r.2.2)] ∧ Own (Nw w0 ([vg0] ++ ([]))) (fun _ => True) w ([vg0] ++ ([]))
def s_spec_l1Cur__among (list : List Int) (b0 : (List Int) × Int × Int) : Option (Int × Int × Int) :=
  (s_spec_l1Cur__pick (list.length : Int) (b0.1, b0.2.1, b0.2.2)).bind fun r5 =>
  (idx list r5.1).bind fun x6 =>
  some (x6, r5.2.1, r5.2.2)
set_option maxHeartbeats 4000000 in
theorem c_spec_l1Cur__among {M : Nat → Prop} {w : World} {vg0 : Nat} {pa0 : Option Addr} {pn0 pc0 : Nat} {va0x0 : Option Addr} {vn0x0 vc0x0 : Nat} (list : List Int) (b0 : (List Int) × Int × Int) (h0 : (RT.rs (RT.int .i64)).val M w (.slice pa0 pn0 pc0) list ([])) (hb0 : BoxV w vg0 53 [(.slice va0x0 vn0x0 vc0x0), (.int .i64 b0.2.1), (.int .u64 b0.2.2)]) (hl0x0 : (RT.rs (RT.int .u8)).val M w (.slice va0x0 vn0x0 vc0x0) b0.1 ([])) (hI : Own (Nw w ([vg0] ++ ([]))) M w ([vg0] ++ ([]))) (hM : ∀ g, w.heap.size ≤ g → M g) {r : Int × Int × Int} (hs : s_spec_l1Cur__among list b0 = some r) :
    Gives Try.prog 61 [(.pointer (some ⟨vg0, 0, none⟩)), (.slice pa0 pn0 pc0)] w (fun v w' => v = (.int .i64 r.1) ∧ Chg ([vg0] ++ ([])) w w' ∧ BoxV w' vg0 53 [(.slice va0x0 vn0x0 vc0x0), (.int .i64 r.2.1), (.int .u64 r.2.2)] ∧ Own (Nw w ([vg0] ++ ([]))) (fun _ => True) w' ([vg0] ++ ([]))) := by
 refine calls_fr Try.func61 rfl Try.ntmps61 (Nat.le_of_ble_eq_true rfl) ?_
 have hO := hI
 have hC := Chg.refl ([vg0] ++ ([])) w
 unfold s_spec_l1Cur__among at hs
 refine wp_mono (Q := KPost (k_spec_l1Cur__among M w vg0 pa0 pn0 pc0 va0x0 vn0x0 vc0x0 list b0 r)) ?_ (fun e a b3 h => ?_)
 rotate_left
 ·cases e
  case ret =>
   obtain ⟨σ, rfl, hrest⟩ := h
   exact ret1x Try.results61 (res_tmp rfl) ⟨rfl, hrest⟩
  all_goals exact (h : False).elim
 refine c_sr ?_
 refine pl_val (.int .i64 0) (y_assign rfl) ?_
 refine c_nil ?_
 refine c_sr ?_
 refine pl_val (.slice pa0 pn0 pc0) (y_move rfl) ?_
 refine pl_val (.pointer (some ⟨vg0, 0, none⟩)) (y_move rfl) ?_
 refine pl_val (.slice pa0 pn0 pc0) (y_move rfl) ?_
 refine pl_val (.int .i64 (list.length : Int)) (y_len' Sl25 (rs_len h0) rfl) ?_
 have a3 := hO
 have a2 := Own.lend (F := (([vg0]) ++ ([]))) (R := []) (Own.perm (a3) (by simp))
 obtain ⟨r5, a4, hs⟩ := bind_some hs
 refine pl_call Bd62 rfl (c_spec_l1Cur__pick (M := M) (list.length : Int) (b0.1, b0.2.1, b0.2.2) (show BoxV _ vg0 53 [(.slice va0x0 vn0x0 vc0x0), (.int .i64 b0.2.1), (.int .u64 b0.2.2)] from hb0) hl0x0 a2 a2.fut a4) ?_
 rintro _ a5 ⟨rfl, a0, a1, a6⟩
 have hO := hO.perm (R := (([vg0]) ++ ([])) ++ ([])) (by simp)
 have h0 := h0.mt a0 hO same_
 have hl0x0 := hl0x0.mt a0 hO same_
 have hC := hC.st a0 hO same_
 have hO := Own.join hO a0 a6
 have hO := hO.perm (R := [vg0] ++ ([])) (by simp)
 have a1 : BoxV a5 vg0 53 [(.slice va0x0 vn0x0 vc0x0), (.int .i64 r5.2.1), (.int .u64 r5.2.2)] := a1
 obtain ⟨x6, a7, hs⟩ := bind_some hs
 obtain ⟨a8, a9, b1, b2⟩ := rs_idx Sl25 Sz3 h0 a7
 refine pl_val (.pointer (some ⟨a8, a9, none⟩)) (b1 _ _ _ _ _ _ _ _ _ rfl rfl) ?_
 refine pl_val (.int .i64 x6) (y_load rfl ((at_load_int Ag3 Sz3 b2) _ (Chg.refl _ _))) ?_
 refine pl_val (.int .i64 x6) (y_assign rfl) ?_
 refine c_nil ?_
 refine wp_ret ?_
 cases hs
 exact ⟨_, fr_ovl 12 ⟨rfl, trivial⟩, hC, a1, hO.top⟩

theorem Bd61 : Bodied Try.prog 61 := bodied Try.func61 (by kernel_rfl) rfl

def k_spec_l1Cur__size6 (M : Nat → Prop) (w0 : World) (vg0 : Nat) (va0x0 : Option Addr) (vn0x0 vc0x0 : Nat) (b0 : (List Int) × Int × Int) (r : Int × Int × Int) (a : Act) (w : World) : Prop :=
  ∃ (σ : Nat → Value) , a = fr 11 (ovl σ [(2, (.int .i64 r.1))]) ∧ Chg ([vg0] ++ ([])) w0 w ∧ BoxV w vg0 53 [(.slice va0x0 vn0x0 vc0x0), (.int .i64 r.2.1), (.int .u64 r.2.2)] ∧ Own (Nw w0 ([vg0] ++ ([]))) (fun _ => True) w ([vg0] ++ ([]))
def s_spec_l1Cur__size6 (b0 : (List Int) × Int × Int) : Option (Int × Int × Int) :=
  (s_spec_l1Cur__pick 24 (b0.1, b0.2.1, b0.2.2)).bind fun r6 =>
  (slc ([1, 2, 3, 4, 4, 5, 6, 8, 0, 9]) 0 (w64 (8 + (w64 (Int.tdiv r6.1 11))))).bind fun y8 =>
  (s_spec_l1Cur__among y8 (b0.1, r6.2.1, r6.2.2)).bind fun r11 =>
  some (r11.1, r11.2.1, r11.2.2)
set_option maxHeartbeats 4000000 in
theorem c_spec_l1Cur__size6 {M : Nat → Prop} {w : World} {vg0 : Nat} {va0x0 : Option Addr} {vn0x0 vc0x0 : Nat} (b0 : (List Int) × Int × Int) (hb0 : BoxV w vg0 53 [(.slice va0x0 vn0x0 vc0x0), (.int .i64 b0.2.1), (.int .u64 b0.2.2)]) (hl0x0 : (RT.rs (RT.int .u8)).val M w (.slice va0x0 vn0x0 vc0x0) b0.1 ([])) (hI : Own (Nw w ([vg0] ++ ([]))) M w ([vg0] ++ ([]))) (hM : ∀ g, w.heap.size ≤ g → M g) {r : Int × Int × Int} (hs : s_spec_l1Cur__size6 b0 = some r) :
    Gives Try.prog 72 [(.pointer (some ⟨vg0, 0, none⟩))] w (fun v w' => v = (.int .i64 r.1) ∧ Chg ([vg0] ++ ([])) w w' ∧ BoxV w' vg0 53 [(.slice va0x0 vn0x0 vc0x0), (.int .i64 r.2.1), (.int .u64 r.2.2)] ∧ Own (Nw w ([vg0] ++ ([]))) (fun _ => True) w' ([vg0] ++ ([]))) := by
 refine calls_fr Try.func72 rfl Try.ntmps72 (Nat.le_of_ble_eq_true rfl) ?_
 have hO := hI
 have hC := Chg.refl ([vg0] ++ ([])) w
 unfold s_spec_l1Cur__size6 at hs
 refine wp_mono (Q := KPost (k_spec_l1Cur__size6 M w vg0 va0x0 vn0x0 vc0x0 b0 r)) ?_ (fun e a c8 h => ?_)
 rotate_left
 ·cases e
  case ret =>
   obtain ⟨σ, rfl, hrest⟩ := h
   exact ret1x Try.results72 (res_tmp rfl) ⟨rfl, hrest⟩
  all_goals exact (h : False).elim
 refine c_sr ?_
 refine pl_val (.int .i64 0) (y_assign rfl) ?_
 refine c_nil ?_
 refine c_sr ?_
 refine pl_val (.pointer (some ⟨vg0, 0, none⟩)) (y_move rfl) ?_
 obtain ⟨a9, a0, b5, b1, a3, b2⟩ := new_block w [(.int .i64 1), (.int .i64 2), (.int .i64 3), (.int .i64 4), (.int .i64 4), (.int .i64 5), (.int .i64 6), (.int .i64 8), (.int .i64 0), (.int .i64 9)] 3
 refine pl_val (w' := a9) (.slice (some ⟨a0, 0, none⟩) 10 10) (y_bslice rfl (by rw [b5, b1]; kernel_rfl)) ?_
 have hl0x0 := hl0x0.ext a3
 have hb0 := hb0.cn a3
 have hC := hC.ext a3
 have hO := hO.new1 a3 b1 b2.lt
 have a1 := os_of_box (r := (RT.int .i64)) (M := M) (css := [[(.int .i64 1)], [(.int .i64 2)], [(.int .i64 3)], [(.int .i64 4)], [(.int .i64 4)], [(.int .i64 5)], [(.int .i64 6)], [(.int .i64 8)], [(.int .i64 0)], [(.int .i64 9)]]) (fps := [([] : List Nat), ([] : List Nat), ([] : List Nat), ([] : List Nat), ([] : List Nat), ([] : List Nat), ([] : List Nat), ([] : List Nat), ([] : List Nat), ([] : List Nat)]) (xs := ([1, 2, 3, 4, 4, 5, 6, 8, 0, 9] : List Int)) b2 ⟨⟨rfl, rfl⟩, ⟨⟨rfl, rfl⟩, ⟨⟨rfl, rfl⟩, ⟨⟨rfl, rfl⟩, ⟨⟨rfl, rfl⟩, ⟨⟨rfl, rfl⟩, ⟨⟨rfl, rfl⟩, ⟨⟨rfl, rfl⟩, ⟨⟨rfl, rfl⟩, ⟨⟨rfl, rfl⟩, trivial⟩⟩⟩⟩⟩⟩⟩⟩⟩⟩ (Nat.le_of_ble_eq_true rfl) (List.nodup_cons.2 ⟨(fun h => nomatch h), List.nodup_nil⟩)
 have a1 : (RT.os 3 (RT.int .i64)).val M a9 (.slice (some ⟨a0, 0, none⟩) 10 10) [1, 2, 3, 4, 4, 5, 6, 8, 0, 9] [a0] := a1
 refine pl_val (.pointer (some ⟨vg0, 0, none⟩)) (y_move rfl) ?_
 have hO := hO.fr1
 have b6 := hO
 have b3 := Own.lend (F := (([vg0]) ++ ([]))) (R := ([a0]) ++ ([])) (Own.perm (b6) (by simp))
 obtain ⟨r6, b7, hs⟩ := bind_some hs
 refine pl_call Bd62 rfl (c_spec_l1Cur__pick (M := M) 24 (b0.1, b0.2.1, b0.2.2) (show BoxV _ vg0 53 [(.slice va0x0 vn0x0 vc0x0), (.int .i64 b0.2.1), (.int .u64 b0.2.2)] from hb0) hl0x0 b3 b3.fut b7) ?_
 rintro _ b8 ⟨rfl, a4, a5, b9⟩
 have hO := hO.perm (R := (([vg0]) ++ ([])) ++ (([a0]) ++ ([]))) (by simp)
 have hl0x0 := hl0x0.mt a4 hO same_
 have a1 := a1.ma a4 hO same_ (fun _ e => (mem_l (e)))
 have hC := hC.st a4 hO same_
 have hO := Own.join hO a4 b9
 have hO := hO.perm (R := [vg0] ++ (([a0]) ++ ([]))) (by simp)
 have a5 : BoxV b8 vg0 53 [(.slice va0x0 vn0x0 vc0x0), (.int .i64 r6.2.1), (.int .u64 r6.2.2)] := a5
 refine pl_val (.int .i64 (w64 (Int.tdiv r6.1 11))) (y_quo rfl rfl (by decide)) ?_
 refine pl_val (.int .i64 (w64 (8 + (w64 (Int.tdiv r6.1 11))))) (y_add rfl rfl) ?_
 obtain ⟨y8, c0, hs⟩ := bind_some hs
 obtain ⟨c1, c2, c3, a6, c9, c4, d0⟩ := rs_part Try.underlying25 Sz3 (((Frz.os Frz.int)).val a1 (M' := (Less M ([a0]))) Less.sub Less.not) c0
 refine pl_val (.slice c1 c2 c3) (y_slice rfl rfl rfl (c4 rfl _)) ?_
 have hO := hO.fr1
 have hO := hO.fr1
 have a7 := hO
 have a7 := a7.fr1
 have b4 := Own.lend (F := (([vg0]) ++ ([]))) (R := []) (Own.perm (a7.less) (by simp))
 obtain ⟨r11, c5, hs⟩ := bind_some hs
 refine pl_call Bd61 rfl (c_spec_l1Cur__among (M := (Less M ([a0]))) y8 (b0.1, r6.2.1, r6.2.2) a6 (show BoxV _ vg0 53 [(.slice va0x0 vn0x0 vc0x0), (.int .i64 r6.2.1), (.int .u64 r6.2.2)] from a5) (hl0x0.sub Less.sub) b4 b4.fut c5) ?_
 rintro _ c6 ⟨rfl, a2, a8, c7⟩
 have hO := hO.fr1
 have hO := hO.fr1
 have hO := hO.perm (R := (([vg0]) ++ ([])) ++ (([a0]) ++ ([]))) (by simp)
 have hl0x0 := hl0x0.mt a2 hO same_
 have a1 := a1.ma a2 hO same_ (fun _ e => (mem_l (e)))
 have a6 := a6.mut a2 (fun g hg => ⟨hO.inM g ((fun _ h => h) g hg), fun e => hO.apart g ((fun _ h => h) g hg) (mem_l (e))⟩) (fun _ _ h => nomatch h)
 have hC := hC.st a2 hO same_
 have hO := Own.join hO a2 c7
 have hO := hO.perm (R := [vg0] ++ (([a0]) ++ ([]))) (by simp)
 have a8 : BoxV c6 vg0 53 [(.slice va0x0 vn0x0 vc0x0), (.int .i64 r11.2.1), (.int .u64 r11.2.2)] := a8
 refine pl_val (.int .i64 r11.1) (y_assign rfl) ?_
 refine c_nil ?_
 refine wp_ret ?_
 cases hs
 have hO := hO.fr1
 have hO := hO.drop
 exact ⟨_, fr_ovl 11 ⟨rfl, trivial⟩, hC, a8, hO.top⟩

def k_spec_l1Most (M : Nat → Prop) (w0 : World) (r : Int) (a : Act) (w : World) : Prop :=
  ∃ (σ : Nat → Value) , a = fr 10 (ovl σ [(4, (.int .i64 r))]) ∧ Chg [] w0 w
def s_spec_l1Most (a_ : Int) (b : Int) : Option (Int) :=
  (bif (decide (b < a_)) then some a_ else some b)
set_option maxHeartbeats 4000000 in
theorem c_spec_l1Most {M : Nat → Prop} {w : World}  (a_ : Int) (b : Int)  (hM : ∀ g, w.heap.size ≤ g → M g) {r : Int} (hs : s_spec_l1Most a_ b = some r) :
    Gives Try.prog 96 [(.int .i64 a_), (.int .i64 b)] w (fun v w' => v = (.int .i64 r) ∧ Chg [] w w') := by
 refine calls_fr Try.func96 rfl Try.ntmps96 (Nat.le_of_ble_eq_true rfl) ?_
 have hO := Own.start (N := Nw w []) hM Nw.fut
 have hC := Chg.refl [] w
 unfold s_spec_l1Most at hs
 refine wp_mono (Q := KPost (k_spec_l1Most M w r)) ?_ (fun e a a1 h => ?_)
 rotate_left
 ·cases e
  case ret =>
   obtain ⟨σ, rfl, hrest⟩ := h
   exact ret1x Try.results96 (res_tmp rfl) ⟨rfl, hrest⟩
  all_goals exact (h : False).elim
 refine c_sr ?_
 refine pl_val (.int .i64 0) (y_assign rfl) ?_
 refine c_nil ?_
 refine c_seq ?_
 refine c_sr ?_
 refine pl_val (.int .i64 a_) (y_move rfl) ?_
 refine pl_val (.int .i64 b) (y_move rfl) ?_
 refine pl_val (.bool (decide (b < a_))) (y_gtr rfl rfl) ?_
 refine c_nil ?_
 rcases bif_some hs with ⟨a0, hs⟩ | ⟨a0, hs⟩
 ·refine c_condT (congrArg Value.bool a0) ?_
  refine c_sr ?_
  refine pl_val (.int .i64 a_) (y_move rfl) ?_
  refine pl_val (.int .i64 a_) (y_assign rfl) ?_
  refine c_nil ?_
  refine wp_ret ?_
  cases hs
  exact ⟨_, fr_ovl 10 ⟨rfl, trivial⟩, hC⟩
 refine c_condF (congrArg Value.bool a0) ?_
 refine wp_skip ?_
 refine c_sr ?_
 refine pl_val (.int .i64 b) (y_move rfl) ?_
 refine pl_val (.int .i64 b) (y_assign rfl) ?_
 refine c_nil ?_
 refine wp_ret ?_
 cases hs
 exact ⟨_, fr_ovl 10 ⟨rfl, trivial⟩, hC⟩

def k_spec_l1Least (M : Nat → Prop) (w0 : World) (r : Int) (a : Act) (w : World) : Prop :=
  ∃ (σ : Nat → Value) , a = fr 10 (ovl σ [(4, (.int .i64 r))]) ∧ Chg [] w0 w
def s_spec_l1Least (a_ : Int) (b : Int) : Option (Int) :=
  (bif (decide (a_ < b)) then some a_ else some b)
set_option maxHeartbeats 4000000 in
theorem c_spec_l1Least {M : Nat → Prop} {w : World}  (a_ : Int) (b : Int)  (hM : ∀ g, w.heap.size ≤ g → M g) {r : Int} (hs : s_spec_l1Least a_ b = some r) :
    Gives Try.prog 95 [(.int .i64 a_), (.int .i64 b)] w (fun v w' => v = (.int .i64 r) ∧ Chg [] w w') := by
 refine calls_fr Try.func95 rfl Try.ntmps95 (Nat.le_of_ble_eq_true rfl) ?_
 have hO := Own.start (N := Nw w []) hM Nw.fut
 have hC := Chg.refl [] w
 unfold s_spec_l1Least at hs
 refine wp_mono (Q := KPost (k_spec_l1Least M w r)) ?_ (fun e a a1 h => ?_)
 rotate_left
 ·cases e
  case ret =>
   obtain ⟨σ, rfl, hrest⟩ := h
   exact ret1x Try.results95 (res_tmp rfl) ⟨rfl, hrest⟩
  all_goals exact (h : False).elim
 refine c_sr ?_
 refine pl_val (.int .i64 0) (y_assign rfl) ?_
 refine c_nil ?_
 refine c_seq ?_
 refine c_sr ?_
 refine pl_val (.int .i64 a_) (y_move rfl) ?_
 refine pl_val (.int .i64 b) (y_move rfl) ?_
 refine pl_val (.bool (decide (a_ < b))) (y_lss rfl rfl) ?_
 refine c_nil ?_
 rcases bif_some hs with ⟨a0, hs⟩ | ⟨a0, hs⟩
 ·refine c_condT (congrArg Value.bool a0) ?_
  refine c_sr ?_
  refine pl_val (.int .i64 a_) (y_move rfl) ?_
  refine pl_val (.int .i64 a_) (y_assign rfl) ?_
  refine c_nil ?_
  refine wp_ret ?_
  cases hs
  exact ⟨_, fr_ovl 10 ⟨rfl, trivial⟩, hC⟩
 refine c_condF (congrArg Value.bool a0) ?_
 refine wp_skip ?_
 refine c_sr ?_
 refine pl_val (.int .i64 b) (y_move rfl) ?_
 refine pl_val (.int .i64 b) (y_assign rfl) ?_
 refine c_nil ?_
 refine wp_ret ?_
 cases hs
 exact ⟨_, fr_ovl 10 ⟨rfl, trivial⟩, hC⟩

theorem Rw25 : RowT Try.prog 25 3 1 [(.int .i64 0)] := ⟨Try.underlying25, ⟨_, _, rfl, rfl, rfl, rfl, by decide⟩, rfl, by decide⟩

def k_spec_l6Identity (M : Nat → Prop) (w0 : World) (r : (List Int)) (a : Act) (w : World) : Prop :=
  ∃ (σ : Nat → Value) (ra0 : Option Addr) (rn0 rc0 : Nat) (rf0 : List Nat), a = fr 16 (ovl σ [(2, (.slice ra0 rn0 rc0))]) ∧ Chg [] w0 w ∧ (RT.os 3 (RT.int .i64)).val M w (.slice ra0 rn0 rc0) r rf0 ∧ Own (Nw w0 []) (fun _ => True) w (rf0 ++ ([]))
def s_spec_l6Identity (n : Int) : Option ((List Int)) :=
  (forC (S := (List Int)) (R := (List Int)) (fun k12 s10 =>
  (app s10 ([k12])).bind fun y23 =>
  some (.nx y23)) 0 n ([])).bind fun o14 => after o14 (fun r_ => some r_) (fun s10 =>
  some s10)
set_option maxHeartbeats 4000000 in
theorem c_spec_l6Identity {M : Nat → Prop} {w : World}  (n : Int)  (hM : ∀ g, w.heap.size ≤ g → M g) {r : (List Int)} (hs : s_spec_l6Identity n = some r) :
    Gives Try.prog 94 [(.int .i64 n)] w (fun v w' => ∃ (ra0 : Option Addr) (rn0 rc0 : Nat) (rf0 : List Nat), v = (.slice ra0 rn0 rc0) ∧ Chg [] w w' ∧ (RT.os 3 (RT.int .i64)).val M w' (.slice ra0 rn0 rc0) r rf0 ∧ Own (Nw w []) (fun _ => True) w' (rf0 ++ ([]))) := by
 refine calls_fr Try.func94 rfl Try.ntmps94 (Nat.le_of_ble_eq_true rfl) ?_
 have hO := Own.start (N := Nw w []) hM Nw.fut
 have hC := Chg.refl [] w
 unfold s_spec_l6Identity at hs
 refine wp_mono (Q := KPost (k_spec_l6Identity M w r)) ?_ (fun e a b0 h => ?_)
 rotate_left
 ·cases e
  case ret =>
   obtain ⟨σ, ra0, rn0, rc0, rf0, rfl, hrest⟩ := h
   exact ret1x Try.results94 (res_tmp rfl) ⟨ra0, rn0, rc0, rf0, rfl, hrest⟩
  all_goals exact (h : False).elim
 refine c_sr ?_
 refine pl_val (.slice none 0 0) (y_assign rfl) ?_
 refine c_nil ?_
 refine c_sr ?_
 obtain ⟨b0, a1, c7, c0, c1, c2⟩ := new_block w [] 3
 refine pl_val (w' := b0) (.slice (some ⟨a1, 0, none⟩) 0 0) (y_bslice rfl (by rw [c7, c0]; kernel_rfl)) ?_
 have hC := hC.ext c1
 have hO := hO.new1 c1 c0 c2.lt
 have b2 := os_of_box (r := (RT.int .i64)) (M := M) (css := []) (fps := []) (xs := ([] : List Int)) c2 trivial (Nat.zero_le _) (List.nodup_cons.2 ⟨(fun h => nomatch h), List.nodup_nil⟩)
 have b2 : (RT.os 3 (RT.int .i64)).val M b0 (.slice (some ⟨a1, 0, none⟩) 0 0) [] [a1] := b2
 refine pl_val (.slice (some ⟨a1, 0, none⟩) 0 0) (y_assign rfl) ?_
 refine c_nil ?_
 refine c_seq ?_
 refine c_sr ?_
 refine pl_val (.int .i64 0) (y_assign rfl) ?_
 refine c_nil ?_
 obtain ⟨o14, c8, hs⟩ := bind_some hs
 refine wp_block ?_
 refine wp_forC (id := 0) n (I := fun k12 s10 a a0 => ∃ (σ : Nat → Value) (a2 : Option Addr) (a3 : Nat) (a4 : Nat) (a9 : List Nat), a = fr 16 (ovl σ [(0, (.int .i64 n)), (3, (.slice a2 a3 a4)), (4, (.int .i64 k12))]) ∧ Chg [] w a0 ∧ Own (Nw w []) M a0 (a9 ++ []) ∧ (RT.os 3 (RT.int .i64)).val M a0 (.slice a2 a3 a4) s10 a9) (J := fun s10 a a0 => ∃ (σ : Nat → Value) (a5 : Option Addr) (a6 : Nat) (a7 : Nat) (b1 : List Nat), a = fr 16 (ovl σ [(3, (.slice a5 a6 a7))]) ∧ Chg [] w a0 ∧ Own (Nw w []) M a0 (b1 ++ []) ∧ (RT.os 3 (RT.int .i64)).val M a0 (.slice a5 a6 a7) s10 b1) (K := (k_spec_l6Identity M w)) ?_ ?_ 0 ([]) o14 _ _ ?_ c8 ?_
 ·rintro k12 s10 a a0 ⟨σ, a2, a3, a4, a9, rfl, hC, hO, a8⟩ hlt
  refine c_seq ?_
  refine c_sr ?_
  refine pl_val (.int .i64 k12) (y_move rfl) ?_
  refine pl_val (.int .i64 n) (y_move rfl) ?_
  refine pl_val (.bool (decide (k12 < n))) (y_lss rfl rfl) ?_
  refine c_nil ?_
  refine c_condF (congrArg Value.bool (decide_eq_false hlt)) ?_
  refine wp_exit ?_
  exact ⟨rfl, _, a2, a3, a4, a9, fr_ovl 16 ⟨rfl, trivial⟩, hC, hO, a8⟩
 ·rintro k12 s10 o14 a a0 ⟨σ, a2, a3, a4, a9, rfl, hC, hO, a8⟩ hlt hw hs
  refine c_seq ?_
  refine c_sr ?_
  refine pl_val (.int .i64 k12) (y_move rfl) ?_
  refine pl_val (.int .i64 n) (y_move rfl) ?_
  refine pl_val (.bool (decide (k12 < n))) (y_lss rfl rfl) ?_
  refine c_nil ?_
  refine c_condT (congrArg Value.bool (decide_eq_true hlt)) ?_
  refine wp_skip ?_
  refine c_seq ?_
  refine wp_block ?_
  refine c_region ?_
  refine pl_val (.slice a2 a3 a4) (y_move rfl) ?_
  refine pl_val (.int .i64 k12) (y_move rfl) ?_
  obtain ⟨c3, b3, c9, c4, b4, c5⟩ := new_block a0 [(.int .i64 k12)] 3
  refine pl_val (w' := c3) (.slice (some ⟨b3, 0, none⟩) 1 1) (y_bslice rfl (by rw [c9, c4]; kernel_rfl)) ?_
  have a8 := a8.ext b4
  have hC := hC.ext b4
  have hO := hO.new1 b4 c4 c5.lt
  have b5 := os_of_box (r := (RT.int .i64)) (M := M) (css := [[(.int .i64 k12)]]) (fps := [([] : List Nat)]) (xs := ([k12] : List Int)) c5 ⟨⟨rfl, rfl⟩, trivial⟩ (Nat.le_of_ble_eq_true rfl) (List.nodup_cons.2 ⟨(fun h => nomatch h), List.nodup_nil⟩)
  have b5 : (RT.os 3 (RT.int .i64)).val M c3 (.slice (some ⟨b3, 0, none⟩) 1 1) [k12] [b3] := b5
  obtain ⟨y23, d0, hs⟩ := bind_some hs
  have hO := hO.fr1
  obtain ⟨b6, b7, b8, d1, d2, d3, c6, d4, b9⟩ := app_os Rw25 d0 a8 b5 hO.inM (fun g hg hq => hO.apart g hq (mem_l hg))
  have d5 := os_block a8
  refine pl_val (w' := d1) (.slice b6 b7 b8) (y_append rfl rfl (d3 _)) ?_
  have hO := hO.fr1
  have hO := hO.fr1
  have hC := hC.st c6 hO d5
  have hO := hO.eat c6 d4 (os_nodup b9) b9.fpl
  refine pl_val (.slice b6 b7 b8) (y_assign rfl) ?_
  refine c_nil ?_
  refine c_region ?_
  refine pl_val (.int .i64 k12) (y_move rfl) ?_
  refine pl_val (.int .i64 (w64 (k12 + 1))) (y_add rfl rfl) ?_
  refine pl_val (.int .i64 (w64 (k12 + 1))) (y_assign rfl) ?_
  refine c_nil ?_
  cases hs
  exact ⟨_, b6, b7, b8, d2, fr_ovl 16 ⟨rfl, rfl, congrArg (Value.int .i64) hw, trivial⟩, hC, hO, b9⟩
 ·skip
  exact ⟨_, (some ⟨a1, 0, none⟩), 0, 0, ([a1]), fr_ovl 16 ⟨rfl, rfl, rfl, trivial⟩, hC, hO, b2⟩
 cases o14 with
 | nx _ => exact True.intro
 | rt r_ =>
  have hs := after_rt hs
  intro d6 b0 hK
  cases hs
  exact hK
 | br s10 =>
  have hs := after_br hs
  rintro d6 a0 ⟨σ, a5, a6, a7, b1, rfl, hC, hO, d7⟩
  refine c_sr ?_
  refine pl_val (.slice a5 a6 a7) (y_move rfl) ?_
  refine pl_val (.slice a5 a6 a7) (y_assign rfl) ?_
  refine c_nil ?_
  refine wp_ret ?_
  cases hs
  exact ⟨_, a5, a6, a7, b1, fr_ovl 16 ⟨rfl, trivial⟩, hC, d7, hO.top⟩

theorem Bd95 : Bodied Try.prog 95 := bodied Try.func95 (by kernel_rfl) rfl

theorem Bd96 : Bodied Try.prog 96 := bodied Try.func96 (by kernel_rfl) rfl

def k_spec_l6Unite (M : Nat → Prop) (w0 : World) (r : (List Int)) (a : Act) (w : World) : Prop :=
  ∃ (σ : Nat → Value) (ra0 : Option Addr) (rn0 rc0 : Nat) (rf0 : List Nat), a = fr 54 (ovl σ [(6, (.slice ra0 rn0 rc0))]) ∧ Chg [] w0 w ∧ (RT.os 3 (RT.int .i64)).val M w (.slice ra0 rn0 rc0) r rf0 ∧ Own (Nw w0 []) (fun _ => True) w (rf0 ++ ([]))
def s_spec_l6Unite (p : List Int) (x_ : Int) (y : Int) : Option ((List Int)) :=
  (idx p x_).bind fun x16 =>
  (idx p y).bind fun x18 =>
  (idx p x_).bind fun x20 =>
  (idx p y).bind fun x22 =>
  (s_spec_l1Least x16 x18).bind fun r25 =>
  (s_spec_l1Most x20 x22).bind fun r27 =>
  (forC (S := (List Int)) (R := (List Int)) (fun k49 s47 =>
  (idx p k49).bind fun x57 =>
  (bif (x57 == r27) then (app s47 ([r25])).bind fun y63 =>
  some (.nx y63) else (idx p k49).bind fun x65 =>
  (app s47 ([x65])).bind fun y70 =>
  some (.nx y70))) 0 (p.length : Int) ([])).bind fun o51 => after o51 (fun r_ => some r_) (fun s47 =>
  some s47)
set_option maxHeartbeats 4000000 in
theorem c_spec_l6Unite {M : Nat → Prop} {w : World} {pa0 : Option Addr} {pn0 pc0 : Nat} (p : List Int) (x_ : Int) (y : Int) (h0 : (RT.rs (RT.int .i64)).val M w (.slice pa0 pn0 pc0) p ([])) (hM : ∀ g, w.heap.size ≤ g → M g) {r : (List Int)} (hs : s_spec_l6Unite p x_ y = some r) :
    Gives Try.prog 97 [(.slice pa0 pn0 pc0), (.int .i64 x_), (.int .i64 y)] w (fun v w' => ∃ (ra0 : Option Addr) (rn0 rc0 : Nat) (rf0 : List Nat), v = (.slice ra0 rn0 rc0) ∧ Chg [] w w' ∧ (RT.os 3 (RT.int .i64)).val M w' (.slice ra0 rn0 rc0) r rf0 ∧ Own (Nw w []) (fun _ => True) w' (rf0 ++ ([]))) := by
 refine calls_fr Try.func97 rfl Try.ntmps97 (Nat.le_of_ble_eq_true rfl) ?_
 have hO := Own.start (N := Nw w []) hM Nw.fut
 have hC := Chg.refl [] w
 unfold s_spec_l6Unite at hs
 refine wp_mono (Q := KPost (k_spec_l6Unite M w r)) ?_ (fun e a e4 h => ?_)
 rotate_left
 ·cases e
  case ret =>
   obtain ⟨σ, ra0, rn0, rc0, rf0, rfl, hrest⟩ := h
   exact ret1x Try.results97 (res_tmp rfl) ⟨ra0, rn0, rc0, rf0, rfl, hrest⟩
  all_goals exact (h : False).elim
 refine c_sr ?_
 refine pl_val (.slice none 0 0) (y_assign rfl) ?_
 refine c_nil ?_
 refine c_seq ?_
 refine x_start [] Mx rfl ?_
 have b2 := Chg.drew w
 generalize World.drew w = e5 at b2 ⊢
 have h0 := h0.ext b2
 have hC := hC.ext b2
 have hO := hO.ext b2
 have hS := Chg.refl [] e5
 refine x_p 0 (.slice pa0 pn0 pc0) rfl (by kernel_rfl)  (fun _ => y_move rfl) (fun _ => hS) ?_
 refine x_p 1 (.int .i64 x_) rfl (by kernel_rfl)  (fun _ => y_move rfl) (fun _ => hS) ?_
 obtain ⟨x16, e6, hs⟩ := bind_some hs
 obtain ⟨e7, e8, e9, f0⟩ := rs_idx Sl25 Sz3 h0 e6
 refine x_p 2 (.pointer (some ⟨e7, e8, none⟩)) rfl (by kernel_rfl)  (fun _ => e9 _ _ _ _ _ _ _ _ _ rfl rfl) (fun _ => hS) ?_
 refine x_l 3 (.int .i64 x16) rfl (by kernel_rfl)  (fun w' hw' => y_load rfl ((at_load_int Ag3 Sz3 f0) w' hw')) hS ?_
 refine x_p 4 (.slice pa0 pn0 pc0) rfl (by kernel_rfl)  (fun _ => y_move rfl) (fun _ => hS) ?_
 refine x_p 5 (.int .i64 y) rfl (by kernel_rfl)  (fun _ => y_move rfl) (fun _ => hS) ?_
 obtain ⟨x18, f1, hs⟩ := bind_some hs
 obtain ⟨f2, f3, f4, f5⟩ := rs_idx Sl25 Sz3 h0 f1
 refine x_p 6 (.pointer (some ⟨f2, f3, none⟩)) rfl (by kernel_rfl)  (fun _ => f4 _ _ _ _ _ _ _ _ _ rfl rfl) (fun _ => hS) ?_
 refine x_l 7 (.int .i64 x18) rfl (by kernel_rfl)  (fun w' hw' => y_load rfl ((at_load_int Ag3 Sz3 f5) w' hw')) hS ?_
 refine x_p 9 (.slice pa0 pn0 pc0) rfl (by kernel_rfl)  (fun _ => y_move rfl) (fun _ => hS) ?_
 refine x_p 10 (.int .i64 x_) rfl (by kernel_rfl)  (fun _ => y_move rfl) (fun _ => hS) ?_
 obtain ⟨x20, f6, hs⟩ := bind_some hs
 obtain ⟨f7, f8, f9, g0⟩ := rs_idx Sl25 Sz3 h0 f6
 refine x_p 11 (.pointer (some ⟨f7, f8, none⟩)) rfl (by kernel_rfl)  (fun _ => f9 _ _ _ _ _ _ _ _ _ rfl rfl) (fun _ => hS) ?_
 refine x_l 12 (.int .i64 x20) rfl (by kernel_rfl)  (fun w' hw' => y_load rfl ((at_load_int Ag3 Sz3 g0) w' hw')) hS ?_
 refine x_p 13 (.slice pa0 pn0 pc0) rfl (by kernel_rfl)  (fun _ => y_move rfl) (fun _ => hS) ?_
 refine x_p 14 (.int .i64 y) rfl (by kernel_rfl)  (fun _ => y_move rfl) (fun _ => hS) ?_
 obtain ⟨x22, g1, hs⟩ := bind_some hs
 obtain ⟨g2, g3, g4, g5⟩ := rs_idx Sl25 Sz3 h0 g1
 refine x_p 15 (.pointer (some ⟨g2, g3, none⟩)) rfl (by kernel_rfl)  (fun _ => g4 _ _ _ _ _ _ _ _ _ rfl rfl) (fun _ => hS) ?_
 refine x_l 16 (.int .i64 x22) rfl (by kernel_rfl)  (fun w' hw' => y_load rfl ((at_load_int Ag3 Sz3 g5) w' hw')) hS ?_
 refine x_one (i := 8) (by kernel_rfl) ?_
 obtain ⟨r25, g6, hs⟩ := bind_some hs
 refine xk_call (b := false) rfl  Bd95 rfl (c_spec_l1Least (M := M) x16 x18  hO.fut g6) rfl (by rintro _ _ _ ⟨rfl, a5⟩; exact hS.ext a5) ?_
 rintro _ j7 ⟨rfl, a5⟩
 have h0 := h0.ext a5
 have hC := hC.ext a5
 have hO := hO.ext a5
 have hS := hS.ext a5
 refine x_one (i := 17) (by kernel_rfl) ?_
 obtain ⟨r27, g7, hs⟩ := bind_some hs
 refine xk_call (b := false) rfl  Bd96 rfl (c_spec_l1Most (M := M) x20 x22  hO.fut g7) rfl (by rintro _ _ _ ⟨rfl, a6⟩; exact hS.ext a6) ?_
 rintro _ g8 ⟨rfl, a6⟩
 have h0 := h0.ext a6
 have hC := hC.ext a6
 have hO := hO.ext a6
 have hS := hS.ext a6
 refine x_p 18 (.int .i64 r25) rfl (by kernel_rfl)  (fun _ => y_assign rfl) (fun _ => hS) ?_
 refine x_p 19 (.int .i64 r27) rfl (by kernel_rfl)  (fun _ => y_assign rfl) (fun _ => hS) ?_
 refine x_end (by kernel_rfl) ?_
 clear hS
 refine c_sr ?_
 obtain ⟨d3, a7, g9, d4, b6, d5⟩ := new_block g8 [] 3
 refine pl_val (w' := d3) (.slice (some ⟨a7, 0, none⟩) 0 0) (y_bslice rfl (by rw [g9, d4]; kernel_rfl)) ?_
 have h0 := h0.ext b6
 have hC := hC.ext b6
 have hO := hO.new1 b6 d4 d5.lt
 have b7 := os_of_box (r := (RT.int .i64)) (M := M) (css := []) (fps := []) (xs := ([] : List Int)) d5 trivial (Nat.zero_le _) (List.nodup_cons.2 ⟨(fun h => nomatch h), List.nodup_nil⟩)
 have b7 : (RT.os 3 (RT.int .i64)).val M d3 (.slice (some ⟨a7, 0, none⟩) 0 0) [] [a7] := b7
 refine pl_val (.slice (some ⟨a7, 0, none⟩) 0 0) (y_assign rfl) ?_
 refine c_nil ?_
 refine c_seq ?_
 refine c_sr ?_
 refine pl_val (.int .i64 0) (y_assign rfl) ?_
 refine c_nil ?_
 obtain ⟨o51, h1, hs⟩ := bind_some hs
 refine wp_block ?_
 refine wp_forC (id := 0) (p.length : Int) (I := fun k49 s47 a a0 => ∃ (σ : Nat → Value) (a2 : Option Addr) (a3 : Nat) (a4 : Nat) (b1 : List Nat), a = fr 54 (ovl σ [(0, (.slice pa0 pn0 pc0)), (7, (.int .i64 r25)), (8, (.int .i64 r27)), (9, (.slice a2 a3 a4)), (10, (.int .i64 k49))]) ∧ Chg [] w a0 ∧ Own (Nw w []) M a0 (b1 ++ []) ∧ (RT.rs (RT.int .i64)).val M a0 (.slice pa0 pn0 pc0) p ([]) ∧ (RT.os 3 (RT.int .i64)).val M a0 (.slice a2 a3 a4) s47 b1) (J := fun s47 a a0 => ∃ (σ : Nat → Value) (a8 : Option Addr) (a9 : Nat) (b0 : Nat) (b3 : List Nat), a = fr 54 (ovl σ [(9, (.slice a8 a9 b0))]) ∧ Chg [] w a0 ∧ Own (Nw w []) M a0 (b3 ++ []) ∧ (RT.rs (RT.int .i64)).val M a0 (.slice pa0 pn0 pc0) p ([]) ∧ (RT.os 3 (RT.int .i64)).val M a0 (.slice a8 a9 b0) s47 b3) (K := (k_spec_l6Unite M w)) ?_ ?_ 0 ([]) o51 _ _ ?_ h1 ?_
 ·rintro k49 s47 a a0 ⟨σ, a2, a3, a4, b1, rfl, hC, hO, h0, a1⟩ hlt
  refine c_seq ?_
  refine c_sr ?_
  refine pl_val (.int .i64 k49) (y_move rfl) ?_
  refine pl_val (.slice pa0 pn0 pc0) (y_move rfl) ?_
  refine pl_val (.int .i64 (p.length : Int)) (y_len' Sl25 (rs_len h0) rfl) ?_
  refine pl_val (.bool (decide (k49 < (p.length : Int)))) (y_lss rfl rfl) ?_
  refine c_nil ?_
  refine c_condF (congrArg Value.bool (decide_eq_false hlt)) ?_
  refine wp_exit ?_
  exact ⟨rfl, _, a2, a3, a4, b1, fr_ovl 54 ⟨rfl, trivial⟩, hC, hO, h0, a1⟩
 ·rintro k49 s47 o51 a a0 ⟨σ, a2, a3, a4, b1, rfl, hC, hO, h0, a1⟩ hlt hw hs
  refine c_seq ?_
  refine c_sr ?_
  refine pl_val (.int .i64 k49) (y_move rfl) ?_
  refine pl_val (.slice pa0 pn0 pc0) (y_move rfl) ?_
  refine pl_val (.int .i64 (p.length : Int)) (y_len' Sl25 (rs_len h0) rfl) ?_
  refine pl_val (.bool (decide (k49 < (p.length : Int)))) (y_lss rfl rfl) ?_
  refine c_nil ?_
  refine c_condT (congrArg Value.bool (decide_eq_true hlt)) ?_
  refine wp_skip ?_
  refine c_seq ?_
  refine wp_block ?_
  refine c_sr ?_
  refine pl_val (.slice pa0 pn0 pc0) (y_move rfl) ?_
  refine pl_val (.int .i64 k49) (y_move rfl) ?_
  obtain ⟨x57, h2, hs⟩ := bind_some hs
  obtain ⟨h3, h4, h5, h6⟩ := rs_idx Sl25 Sz3 h0 h2
  refine pl_val (.pointer (some ⟨h3, h4, none⟩)) (h5 _ _ _ _ _ _ _ _ _ rfl rfl) ?_
  refine pl_val (.int .i64 x57) (y_load rfl ((at_load_int Ag3 Sz3 h6) _ (Chg.refl _ _))) ?_
  refine pl_val (.int .i64 r27) (y_move rfl) ?_
  refine pl_val (.bool (x57 == r27)) (y_eql rfl rfl) ?_
  refine c_nil ?_
  rcases bif_some hs with ⟨b8, hs⟩ | ⟨b8, hs⟩
  ·refine c_condT (congrArg Value.bool b8) ?_
   refine c_region ?_
   refine pl_val (.slice a2 a3 a4) (y_move rfl) ?_
   refine pl_val (.int .i64 r25) (y_move rfl) ?_
   obtain ⟨d6, b9, h7, d7, b4, d8⟩ := new_block a0 [(.int .i64 r25)] 3
   refine pl_val (w' := d6) (.slice (some ⟨b9, 0, none⟩) 1 1) (y_bslice rfl (by rw [h7, d7]; kernel_rfl)) ?_
   have h0 := h0.ext b4
   have a1 := a1.ext b4
   have hC := hC.ext b4
   have hO := hO.new1 b4 d7 d8.lt
   have c0 := os_of_box (r := (RT.int .i64)) (M := M) (css := [[(.int .i64 r25)]]) (fps := [([] : List Nat)]) (xs := ([r25] : List Int)) d8 ⟨⟨rfl, rfl⟩, trivial⟩ (Nat.le_of_ble_eq_true rfl) (List.nodup_cons.2 ⟨(fun h => nomatch h), List.nodup_nil⟩)
   have c0 : (RT.os 3 (RT.int .i64)).val M d6 (.slice (some ⟨b9, 0, none⟩) 1 1) [r25] [b9] := c0
   obtain ⟨y63, h8, hs⟩ := bind_some hs
   have hO := hO.fr1
   obtain ⟨c1, c2, c3, h9, i0, i1, c4, i2, c5⟩ := app_os Rw25 h8 a1 c0 hO.inM (fun g hg hq => hO.apart g hq (mem_l hg))
   have d9 := os_block a1
   refine pl_val (w' := h9) (.slice c1 c2 c3) (y_append rfl rfl (i1 _)) ?_
   have hO := hO.fr1
   have hO := hO.fr1
   have h0 := h0.mt c4 hO d9
   have hC := hC.st c4 hO d9
   have hO := hO.eat c4 i2 (os_nodup c5) c5.fpl
   refine pl_val (.slice c1 c2 c3) (y_assign rfl) ?_
   refine c_nil ?_
   refine c_region ?_
   refine pl_val (.int .i64 k49) (y_move rfl) ?_
   refine pl_val (.int .i64 (w64 (k49 + 1))) (y_add rfl rfl) ?_
   refine pl_val (.int .i64 (w64 (k49 + 1))) (y_assign rfl) ?_
   refine c_nil ?_
   cases hs
   exact ⟨_, c1, c2, c3, i0, fr_ovl 54 ⟨rfl, rfl, rfl, rfl, congrArg (Value.int .i64) hw, trivial⟩, hC, hO, h0, c5⟩
  refine c_condF (congrArg Value.bool b8) ?_
  refine c_region ?_
  refine pl_val (.slice a2 a3 a4) (y_move rfl) ?_
  refine pl_val (.slice pa0 pn0 pc0) (y_move rfl) ?_
  refine pl_val (.int .i64 k49) (y_move rfl) ?_
  obtain ⟨x65, i3, hs⟩ := bind_some hs
  obtain ⟨i4, i5, i6, i7⟩ := rs_idx Sl25 Sz3 h0 i3
  refine pl_val (.pointer (some ⟨i4, i5, none⟩)) (i6 _ _ _ _ _ _ _ _ _ rfl rfl) ?_
  refine pl_val (.int .i64 x65) (y_load rfl ((at_load_int Ag3 Sz3 i7) _ (Chg.refl _ _))) ?_
  obtain ⟨e0, c6, i9, e1, b5, e2⟩ := new_block a0 [(.int .i64 x65)] 3
  refine pl_val (w' := e0) (.slice (some ⟨c6, 0, none⟩) 1 1) (y_bslice rfl (by rw [i9, e1]; kernel_rfl)) ?_
  have h0 := h0.ext b5
  have a1 := a1.ext b5
  have hC := hC.ext b5
  have hO := hO.new1 b5 e1 e2.lt
  have c7 := os_of_box (r := (RT.int .i64)) (M := M) (css := [[(.int .i64 x65)]]) (fps := [([] : List Nat)]) (xs := ([x65] : List Int)) e2 ⟨⟨rfl, rfl⟩, trivial⟩ (Nat.le_of_ble_eq_true rfl) (List.nodup_cons.2 ⟨(fun h => nomatch h), List.nodup_nil⟩)
  have c7 : (RT.os 3 (RT.int .i64)).val M e0 (.slice (some ⟨c6, 0, none⟩) 1 1) [x65] [c6] := c7
  obtain ⟨y70, j0, hs⟩ := bind_some hs
  have hO := hO.fr1
  obtain ⟨c8, c9, d0, j1, j2, j3, d1, j4, d2⟩ := app_os Rw25 j0 a1 c7 hO.inM (fun g hg hq => hO.apart g hq (mem_l hg))
  have e3 := os_block a1
  refine pl_val (w' := j1) (.slice c8 c9 d0) (y_append rfl rfl (j3 _)) ?_
  have hO := hO.fr1
  have hO := hO.fr1
  have h0 := h0.mt d1 hO e3
  have hC := hC.st d1 hO e3
  have hO := hO.eat d1 j4 (os_nodup d2) d2.fpl
  refine pl_val (.slice c8 c9 d0) (y_assign rfl) ?_
  refine c_nil ?_
  refine c_region ?_
  refine pl_val (.int .i64 k49) (y_move rfl) ?_
  refine pl_val (.int .i64 (w64 (k49 + 1))) (y_add rfl rfl) ?_
  refine pl_val (.int .i64 (w64 (k49 + 1))) (y_assign rfl) ?_
  refine c_nil ?_
  cases hs
  exact ⟨_, c8, c9, d0, j2, fr_ovl 54 ⟨rfl, rfl, rfl, rfl, congrArg (Value.int .i64) hw, trivial⟩, hC, hO, h0, d2⟩
 ·skip
  exact ⟨_, (some ⟨a7, 0, none⟩), 0, 0, ([a7]), fr_ovl 54 ⟨rfl, rfl, rfl, rfl, rfl, trivial⟩, hC, hO, h0, b7⟩
 cases o51 with
 | nx _ => exact True.intro
 | rt r_ =>
  have hs := after_rt hs
  intro j5 e4 hK
  cases hs
  exact hK
 | br s47 =>
  have hs := after_br hs
  rintro j5 a0 ⟨σ, a8, a9, b0, b3, rfl, hC, hO, h0, j6⟩
  refine c_sr ?_
  refine pl_val (.slice a8 a9 b0) (y_move rfl) ?_
  refine pl_val (.slice a8 a9 b0) (y_assign rfl) ?_
  refine c_nil ?_
  refine wp_ret ?_
  cases hs
  exact ⟨_, a8, a9, b0, b3, fr_ovl 54 ⟨rfl, trivial⟩, hC, j6, hO.top⟩

theorem Bd94 : Bodied Try.prog 94 := bodied Try.func94 (by kernel_rfl) rfl

theorem Bd97 : Bodied Try.prog 97 := bodied Try.func97 (by kernel_rfl) rfl

def k_spec_l1Cur__partition6 (M : Nat → Prop) (w0 : World) (vg0 : Nat) (va0x0 : Option Addr) (vn0x0 vc0x0 : Nat) (n : Int) (b0 : (List Int) × Int × Int) (r : (List Int) × Int × Int) (a : Act) (w : World) : Prop :=
  ∃ (σ : Nat → Value) (ra0 : Option Addr) (rn0 rc0 : Nat) (rf0 : List Nat), a = fr 59 (ovl σ [(4, (.slice ra0 rn0 rc0))]) ∧ Chg ([vg0] ++ ([])) w0 w ∧ (RT.os 3 (RT.int .i64)).val M w (.slice ra0 rn0 rc0) r.1 rf0 ∧ BoxV w vg0 53 [(.slice va0x0 vn0x0 vc0x0), (.int .i64 r.2.1), (.int .u64 r.2.2)] ∧ Own (Nw w0 ([vg0] ++ ([]))) (fun _ => True) w (rf0 ++ ([vg0] ++ ([])))
def s_spec_l1Cur__partition6 (n : Int) (b0 : (List Int) × Int × Int) : Option ((List Int) × Int × Int) :=
  (s_spec_l1Most n 0).bind fun r4 =>
  (s_spec_l1Least r4 9).bind fun r6 =>
  (s_spec_l6Identity r6).bind fun r8 =>
  (s_spec_l1Cur__pick 4 (b0.1, b0.2.1, b0.2.2)).bind fun r11 =>
  (iter (S := (List Int) × Int × Int × Int) (R := (List Int) × Int × Int) (fun s40 =>
  (bif ((decide (0 < s40.2.1)) && (decide (1 < (s40.1.length : Int)))) then (s_spec_l1Cur__pick (s40.1.length : Int) (b0.1, s40.2.2.1, s40.2.2.2)).bind fun r56 =>
  (s_spec_l1Cur__pick (s40.1.length : Int) (b0.1, r56.2.1, r56.2.2)).bind fun r58 =>
  (s_spec_l6Unite s40.1 r56.1 r58.1).bind fun r60 =>
  some (.nx (r60, w64 (s40.2.1 - 1), r58.2.1, r58.2.2)) else some (.br (s40.1, s40.2.1, s40.2.2.1, s40.2.2.2)))) FU (r8, r11.1, r11.2.1, r11.2.2)).bind fun o44 => after o44 (fun r_ => some r_) (fun s40 =>
  (s_spec_l1Cur__pick 24 (b0.1, s40.2.2.1, s40.2.2.2)).bind fun r63 =>
  (bif (r63.1 == 0) then (app s40.1 ([0])).bind fun y68 =>
  some (y68, r63.2.1, r63.2.2) else (bif (r63.1 == 1) then (bif (decide (0 < (s40.1.length : Int))) then (s_spec_l1Cur__pick (s40.1.length : Int) (b0.1, r63.2.1, r63.2.2)).bind fun r73 =>
  (s_spec_l1Cur__among ([(-1), (s40.1.length : Int), w64 ((s40.1.length : Int) - 1), 0]) (b0.1, r73.2.1, r73.2.2)).bind fun r77 =>
  (idx s40.1 r73.1).bind fun x78 =>
  some (List.set s40.1 (Int.toNat r73.1) r77.1, r77.2.1, r77.2.2) else some (s40.1, r63.2.1, r63.2.2)) else some (s40.1, r63.2.1, r63.2.2))))
set_option maxHeartbeats 4000000 in
theorem c_spec_l1Cur__partition6 {M : Nat → Prop} {w : World} {vg0 : Nat} {va0x0 : Option Addr} {vn0x0 vc0x0 : Nat} (n : Int) (b0 : (List Int) × Int × Int) (hb0 : BoxV w vg0 53 [(.slice va0x0 vn0x0 vc0x0), (.int .i64 b0.2.1), (.int .u64 b0.2.2)]) (hl0x0 : (RT.rs (RT.int .u8)).val M w (.slice va0x0 vn0x0 vc0x0) b0.1 ([])) (hI : Own (Nw w ([vg0] ++ ([]))) M w ([vg0] ++ ([]))) (hM : ∀ g, w.heap.size ≤ g → M g) {r : (List Int) × Int × Int} (hs : s_spec_l1Cur__partition6 n b0 = some r) :
    Gives Try.prog 73 [(.pointer (some ⟨vg0, 0, none⟩)), (.int .i64 n)] w (fun v w' => ∃ (ra0 : Option Addr) (rn0 rc0 : Nat) (rf0 : List Nat), v = (.slice ra0 rn0 rc0) ∧ Chg ([vg0] ++ ([])) w w' ∧ (RT.os 3 (RT.int .i64)).val M w' (.slice ra0 rn0 rc0) r.1 rf0 ∧ BoxV w' vg0 53 [(.slice va0x0 vn0x0 vc0x0), (.int .i64 r.2.1), (.int .u64 r.2.2)] ∧ Own (Nw w ([vg0] ++ ([]))) (fun _ => True) w' (rf0 ++ ([vg0] ++ ([])))) := by
 refine calls_fr Try.func73 rfl Try.ntmps73 (Nat.le_of_ble_eq_true rfl) ?_
 have hO := hI
 have hC := Chg.refl ([vg0] ++ ([])) w
 unfold s_spec_l1Cur__partition6 at hs
 refine wp_mono (Q := KPost (k_spec_l1Cur__partition6 M w vg0 va0x0 vn0x0 vc0x0 n b0 r)) ?_ (fun e a h8 h => ?_)
 rotate_left
 ·cases e
  case ret =>
   obtain ⟨σ, ra0, rn0, rc0, rf0, rfl, hrest⟩ := h
   exact ret1x Try.results73 (res_tmp rfl) ⟨ra0, rn0, rc0, rf0, rfl, hrest⟩
  all_goals exact (h : False).elim
 refine c_sr ?_
 refine pl_val (.slice none 0 0) (y_assign rfl) ?_
 refine c_nil ?_
 refine c_sr ?_
 refine pl_val (.int .i64 n) (y_move rfl) ?_
 obtain ⟨r4, h9, hs⟩ := bind_some hs
 refine pl_call Bd96 rfl (c_spec_l1Most (M := M) n 0  hO.fut h9) ?_
 rintro _ m2 ⟨rfl, d0⟩
 have hl0x0 := hl0x0.ext d0
 have hb0 := hb0.cn d0
 have hC := hC.ext d0
 have hO := hO.ext d0
 obtain ⟨r6, i0, hs⟩ := bind_some hs
 refine pl_call Bd95 rfl (c_spec_l1Least (M := M) r4 9  hO.fut i0) ?_
 rintro _ m3 ⟨rfl, d1⟩
 have hl0x0 := hl0x0.ext d1
 have hb0 := hb0.cn d1
 have hC := hC.ext d1
 have hO := hO.ext d1
 obtain ⟨r8, i1, hs⟩ := bind_some hs
 refine pl_call Bd94 rfl (c_spec_l6Identity (M := M) r6  hO.fut i1) ?_
 rintro _ m4 ⟨f3, f4, f5, b7, rfl, d2, e0, i2⟩
 have hl0x0 := hl0x0.ext d2
 have hb0 := hb0.cn d2
 have hC := hC.ext d2
 have hO := Own.join0 hO d2 i2
 have hO := hO.perm (R := b7 ++ (([vg0]) ++ ([]))) (by simp)
 refine pl_val (.slice f3 f4 f5) (y_assign rfl) ?_
 refine c_nil ?_
 refine c_seq ?_
 refine c_sr ?_
 refine pl_val (.pointer (some ⟨vg0, 0, none⟩)) (y_move rfl) ?_
 have hO := hO.fr1
 have i3 := hO
 have f6 := Own.lend (F := (([vg0]) ++ ([]))) (R := b7 ++ ([])) (Own.perm (i3) (by simp))
 obtain ⟨r11, i4, hs⟩ := bind_some hs
 refine pl_call Bd62 rfl (c_spec_l1Cur__pick (M := M) 4 (b0.1, b0.2.1, b0.2.2) (show BoxV _ vg0 53 [(.slice va0x0 vn0x0 vc0x0), (.int .i64 b0.2.1), (.int .u64 b0.2.2)] from hb0) hl0x0 f6 f6.fut i4) ?_
 rintro _ i5 ⟨rfl, d3, a9, i6⟩
 have hO := hO.perm (R := (([vg0]) ++ ([])) ++ (b7 ++ ([]))) (by simp)
 have hl0x0 := hl0x0.mt d3 hO same_
 have e0 := e0.ma d3 hO same_ (fun _ e => (mem_l (e)))
 have hC := hC.st d3 hO same_
 have hO := Own.join hO d3 i6
 have hO := hO.perm (R := [vg0] ++ (b7 ++ ([]))) (by simp)
 have a9 : BoxV i5 vg0 53 [(.slice va0x0 vn0x0 vc0x0), (.int .i64 r11.2.1), (.int .u64 r11.2.2)] := a9
 refine pl_val (.int .i64 r11.1) (y_assign rfl) ?_
 refine c_nil ?_
 obtain ⟨o44, i7, hs⟩ := bind_some hs
 refine wp_block ?_
 refine wp_iter (id := 0) (I := fun s40 a a4 => ∃ (σ : Nat → Value) (b2 : Option Addr) (b3 : Nat) (b4 : Nat) (a7 : List Nat), a = fr 59 (ovl σ [(0, (.pointer (some ⟨vg0, 0, none⟩))), (5, (.slice b2 b3 b4)), (6, (.int .i64 s40.2.1))]) ∧ Chg ([vg0] ++ ([])) w a4 ∧ Own (Nw w ([vg0] ++ ([]))) M a4 (a7 ++ (([vg0]) ++ [])) ∧ (RT.rs (RT.int .u8)).val M a4 (.slice va0x0 vn0x0 vc0x0) b0.1 ([]) ∧ BoxV a4 vg0 53 [(.slice va0x0 vn0x0 vc0x0), (.int .i64 s40.2.2.1), (.int .u64 s40.2.2.2)] ∧ (RT.os 3 (RT.int .i64)).val M a4 (.slice b2 b3 b4) s40.1 a7) (J := fun s40 a a4 => ∃ (σ : Nat → Value) (a1 : Option Addr) (a2 : Nat) (a3 : Nat) (a5 : List Nat), a = fr 59 (ovl σ [(0, (.pointer (some ⟨vg0, 0, none⟩))), (5, (.slice a1 a2 a3))]) ∧ Chg ([vg0] ++ ([])) w a4 ∧ Own (Nw w ([vg0] ++ ([]))) M a4 (a5 ++ (([vg0]) ++ [])) ∧ (RT.rs (RT.int .u8)).val M a4 (.slice va0x0 vn0x0 vc0x0) b0.1 ([]) ∧ BoxV a4 vg0 53 [(.slice va0x0 vn0x0 vc0x0), (.int .i64 s40.2.2.1), (.int .u64 s40.2.2.2)] ∧ (RT.os 3 (RT.int .i64)).val M a4 (.slice a1 a2 a3) s40.1 a5) (K := (k_spec_l1Cur__partition6 M w vg0 va0x0 vn0x0 vc0x0 n b0)) ?_ FU (r8, r11.1, r11.2.1, r11.2.2) o44 _ _ ?_ i7 ?_
 ·rintro s40 o44 a a4 ⟨σ, b2, b3, b4, a7, rfl, hC, hO, hl0x0, a9, a6⟩ hs
  refine c_seq ?_
  refine c_seq ?_
  refine c_mid (I := fun a f7 => ∃ (σ : Nat → Value), a = fr 59 (ovl σ [(0, (.pointer (some ⟨vg0, 0, none⟩))), (5, (.slice b2 b3 b4)), (6, (.int .i64 s40.2.1)), (19, (.bool ((decide (0 < s40.2.1)) && (decide (1 < (s40.1.length : Int))))))]) ∧ Chg [] a4 f7) ?_ ?_
  ·have hMid := Chg.refl [] a4
   refine c_region ?_
   refine pl_val (.int .i64 s40.2.1) (y_move rfl) ?_
   refine pl_val (.bool (decide (0 < s40.2.1))) (y_gtr rfl rfl) ?_
   refine pl_val (.bool (decide (0 < s40.2.1))) (y_move rfl) ?_
   rcases Bool.eq_false_or_eq_true ((decide (0 < s40.2.1))) with a8 | a8
   ·skip
    refine pl_yes (.slice b2 b3 b4) (tg := 15) (by kernel_rfl) (congrArg Value.bool a8) (y_move rfl) ?_
    refine pl_yes (.int .i64 (s40.1.length : Int)) (tg := 15) (by kernel_rfl) (congrArg Value.bool a8) (y_len' Sl25 (os_len a6) rfl) ?_
    refine pl_yes (.bool (decide (1 < (s40.1.length : Int)))) (tg := 15) (by kernel_rfl) (congrArg Value.bool a8) (y_gtr rfl rfl) ?_
    refine pl_val (.bool ((decide (0 < s40.2.1)) && (decide (1 < (s40.1.length : Int))))) (y_pick_t (congrArg Value.bool a8) (congrArg Value.bool (by rw [a8]; rfl))) ?_
    refine c_nil ?_
    exact ⟨_, fr_ovl 59 ⟨rfl, rfl, rfl, rfl, trivial⟩, hMid⟩
   refine pl_not (tg := 15) (by kernel_rfl) (congrArg Value.bool a8) ?_
   refine pl_not (tg := 15) (by kernel_rfl) (congrArg Value.bool a8) ?_
   refine pl_not (tg := 15) (by kernel_rfl) (congrArg Value.bool a8) ?_
   refine pl_val (.bool ((decide (0 < s40.2.1)) && (decide (1 < (s40.1.length : Int))))) (y_pick_f (congrArg Value.bool a8) (congrArg Value.bool (by rw [a8]; rfl))) ?_
   refine c_nil ?_
   exact ⟨_, fr_ovl 59 ⟨rfl, rfl, rfl, rfl, trivial⟩, hMid⟩
  rintro f8 f7 ⟨σ, rfl, b8⟩
  have hl0x0 := hl0x0.ext b8
  have a9 := a9.cn b8
  have a6 := a6.ext b8
  have hC := hC.ext b8
  have hO := hO.ext b8
  rcases bif_some hs with ⟨e1, hs⟩ | ⟨e1, hs⟩
  ·refine c_condT (congrArg Value.bool e1) ?_
   refine wp_skip ?_
   refine c_seq ?_
   refine wp_block ?_
   refine c_region ?_
   refine pl_val (.slice b2 b3 b4) (y_move rfl) ?_
   refine pl_val (.pointer (some ⟨vg0, 0, none⟩)) (y_move rfl) ?_
   refine pl_val (.slice b2 b3 b4) (y_move rfl) ?_
   refine pl_val (.int .i64 (s40.1.length : Int)) (y_len' Sl25 (os_len a6) rfl) ?_
   have hO := hO.fr1
   have i9 := hO
   have f9 := Own.lend (F := (([vg0]) ++ ([]))) (R := a7 ++ ([])) (Own.perm (i9) (by simp))
   obtain ⟨r56, j0, hs⟩ := bind_some hs
   refine pl_call Bd62 rfl (c_spec_l1Cur__pick (M := M) (s40.1.length : Int) (b0.1, s40.2.2.1, s40.2.2.2) (show BoxV _ vg0 53 [(.slice va0x0 vn0x0 vc0x0), (.int .i64 s40.2.2.1), (.int .u64 s40.2.2.2)] from a9) hl0x0 f9 f9.fut j0) ?_
   rintro _ j1 ⟨rfl, d4, e2, j2⟩
   have hO := hO.perm (R := (([vg0]) ++ ([])) ++ (a7 ++ ([]))) (by simp)
   have hl0x0 := hl0x0.mt d4 hO same_
   have a6 := a6.ma d4 hO same_ (fun _ e => (mem_l (e)))
   have hC := hC.st d4 hO same_
   have hO := Own.join hO d4 j2
   have hO := hO.perm (R := [vg0] ++ (a7 ++ ([]))) (by simp)
   have e2 : BoxV j1 vg0 53 [(.slice va0x0 vn0x0 vc0x0), (.int .i64 r56.2.1), (.int .u64 r56.2.2)] := e2
   refine pl_val (.pointer (some ⟨vg0, 0, none⟩)) (y_move rfl) ?_
   refine pl_val (.slice b2 b3 b4) (y_move rfl) ?_
   refine pl_val (.int .i64 (s40.1.length : Int)) (y_len' Sl25 (os_len a6) rfl) ?_
   have j3 := hO
   have g0 := Own.lend (F := (([vg0]) ++ ([]))) (R := a7 ++ ([])) (Own.perm (j3) (by simp))
   obtain ⟨r58, j4, hs⟩ := bind_some hs
   refine pl_call Bd62 rfl (c_spec_l1Cur__pick (M := M) (s40.1.length : Int) (b0.1, r56.2.1, r56.2.2) (show BoxV _ vg0 53 [(.slice va0x0 vn0x0 vc0x0), (.int .i64 r56.2.1), (.int .u64 r56.2.2)] from e2) hl0x0 g0 g0.fut j4) ?_
   rintro _ j5 ⟨rfl, d5, b9, j6⟩
   have hO := hO.perm (R := (([vg0]) ++ ([])) ++ (a7 ++ ([]))) (by simp)
   have hl0x0 := hl0x0.mt d5 hO same_
   have a6 := a6.ma d5 hO same_ (fun _ e => (mem_l (e)))
   have hC := hC.st d5 hO same_
   have hO := Own.join hO d5 j6
   have hO := hO.perm (R := [vg0] ++ (a7 ++ ([]))) (by simp)
   have b9 : BoxV j5 vg0 53 [(.slice va0x0 vn0x0 vc0x0), (.int .i64 r58.2.1), (.int .u64 r58.2.2)] := b9
   have hO := hO.fr1
   obtain ⟨r60, j7, hs⟩ := bind_some hs
   refine pl_call Bd97 rfl (c_spec_l6Unite (M := (Less M a7)) s40.1 r56.1 r58.1 (((Frz.os Frz.int)).val a6 Less.sub Less.not) hO.less.fut j7) ?_
   rintro _ m5 ⟨g1, g2, g3, g4, rfl, c0, e3, j8⟩
   have hl0x0 := hl0x0.ext c0
   have b9 := b9.cn c0
   have a6 := a6.ext c0
   have hC := hC.ext c0
   have hO := Own.join0 hO c0 j8
   have hO := hO.perm (R := g4 ++ (a7 ++ (([vg0]) ++ ([])))) (by simp)
   have e3 := e3.free (M' := M) (Free.os Free.int)
   refine pl_val (.slice g1 g2 g3) (y_assign rfl) ?_
   refine c_nil ?_
   refine c_region ?_
   refine pl_val (.int .i64 s40.2.1) (y_move rfl) ?_
   refine pl_val (.int .i64 (w64 (s40.2.1 - 1))) (y_sub rfl rfl) ?_
   refine pl_val (.int .i64 (w64 (s40.2.1 - 1))) (y_assign rfl) ?_
   refine c_nil ?_
   cases hs
   have hO := hO.fr1
   have hO := hO.drop
   have hO := hO.fr1
   have hO := hO.fr1
   exact ⟨_, g1, g2, g3, g4, fr_ovl 59 ⟨rfl, rfl, rfl, trivial⟩, hC, hO, hl0x0, b9, e3⟩
  refine c_condF (congrArg Value.bool e1) ?_
  refine wp_exit ?_
  cases hs
  have hO := hO.fr1
  have hO := hO.fr1
  exact ⟨rfl, _, b2, b3, b4, a7, fr_ovl 59 ⟨rfl, rfl, trivial⟩, hC, hO, hl0x0, a9, a6⟩
 ·skip
  have hO := hO.fr1
  exact ⟨_, f3, f4, f5, b7, fr_ovl 59 ⟨rfl, rfl, rfl, trivial⟩, hC, hO, hl0x0, a9, e0⟩
 cases o44 with
 | nx _ => exact True.intro
 | rt r_ =>
  have hs := after_rt hs
  intro f8 h8 hK
  cases hs
  exact hK
 | br s40 =>
  have hs := after_br hs
  rintro f8 a4 ⟨σ, a1, a2, a3, a5, rfl, hC, hO, hl0x0, a9, a0⟩
  refine c_seq ?_
  refine c_sr ?_
  refine pl_val (.pointer (some ⟨vg0, 0, none⟩)) (y_move rfl) ?_
  have hO := hO.fr1
  have j9 := hO
  have g5 := Own.lend (F := (([vg0]) ++ ([]))) (R := a5 ++ ([])) (Own.perm (j9) (by simp))
  obtain ⟨r63, k0, hs⟩ := bind_some hs
  refine pl_call Bd62 rfl (c_spec_l1Cur__pick (M := M) 24 (b0.1, s40.2.2.1, s40.2.2.2) (show BoxV _ vg0 53 [(.slice va0x0 vn0x0 vc0x0), (.int .i64 s40.2.2.1), (.int .u64 s40.2.2.2)] from a9) hl0x0 g5 g5.fut k0) ?_
  rintro _ g6 ⟨rfl, d6, b1, k1⟩
  have hO := hO.perm (R := (([vg0]) ++ ([])) ++ (a5 ++ ([]))) (by simp)
  have hl0x0 := hl0x0.mt d6 hO same_
  have a0 := a0.ma d6 hO same_ (fun _ e => (mem_l (e)))
  have hC := hC.st d6 hO same_
  have hO := Own.join hO d6 k1
  have hO := hO.perm (R := [vg0] ++ (a5 ++ ([]))) (by simp)
  have b1 : BoxV g6 vg0 53 [(.slice va0x0 vn0x0 vc0x0), (.int .i64 r63.2.1), (.int .u64 r63.2.2)] := b1
  refine c_nil ?_
  refine wp_block ?_
  refine c_sr ?_
  refine pl_val (.bool (r63.1 == 0)) (y_eql rfl rfl) ?_
  refine pl_val (.bool (r63.1 == 0)) (y_assign rfl) ?_
  refine c_nil ?_
  rcases bif_some hs with ⟨e4, hs⟩ | ⟨e4, hs⟩
  ·refine c_condT (congrArg Value.bool e4) ?_
   refine c_region ?_
   refine pl_val (.slice a1 a2 a3) (y_move rfl) ?_
   obtain ⟨g7, e5, k2, g8, c1, g9⟩ := new_block g6 [(.int .i64 0)] 3
   refine pl_val (w' := g7) (.slice (some ⟨e5, 0, none⟩) 1 1) (y_bslice rfl (by rw [k2, g8]; kernel_rfl)) ?_
   have hl0x0 := hl0x0.ext c1
   have b1 := b1.cn c1
   have a0 := a0.ext c1
   have hC := hC.ext c1
   have hO := hO.new1 c1 g8 g9.lt
   have e6 := os_of_box (r := (RT.int .i64)) (M := M) (css := [[(.int .i64 0)]]) (fps := [([] : List Nat)]) (xs := ([0] : List Int)) g9 ⟨⟨rfl, rfl⟩, trivial⟩ (Nat.le_of_ble_eq_true rfl) (List.nodup_cons.2 ⟨(fun h => nomatch h), List.nodup_nil⟩)
   have e6 : (RT.os 3 (RT.int .i64)).val M g7 (.slice (some ⟨e5, 0, none⟩) 1 1) [0] [e5] := e6
   obtain ⟨y68, k3, hs⟩ := bind_some hs
   have hO := hO.fr2
   obtain ⟨c2, c3, c4, k4, k5, k6, d7, k7, e7⟩ := app_os Rw25 k3 a0 e6 hO.inM (fun g hg hq => hO.apart g hq (mem_l hg))
   have e8 := os_block a0
   refine pl_val (w' := k4) (.slice c2 c3 c4) (y_append rfl rfl (k6 _)) ?_
   have hO := hO.fr1
   have hO := hO.fr1
   have hl0x0 := hl0x0.mt d7 hO e8
   have b1 := b1.ap d7 hO e8 (mem_r (mem_l (List.mem_singleton.2 rfl)))
   have hC := hC.st d7 hO e8
   have hO := hO.eat d7 k7 (os_nodup e7) e7.fpl
   refine pl_val (.slice c2 c3 c4) (y_assign rfl) ?_
   refine c_nil ?_
   refine c_sr ?_
   refine pl_val (.slice c2 c3 c4) (y_move rfl) ?_
   refine pl_val (.slice c2 c3 c4) (y_assign rfl) ?_
   refine c_nil ?_
   refine wp_ret ?_
   cases hs
   have hO := hO.fr1
   have hO := hO.fr1
   exact ⟨_, c2, c3, c4, k5, fr_ovl 59 ⟨rfl, trivial⟩, hC, e7, b1, hO.top⟩
  refine c_condF (congrArg Value.bool e4) ?_
  refine c_sr ?_
  refine pl_val (.bool (r63.1 == 1)) (y_eql rfl rfl) ?_
  refine pl_val (.bool (r63.1 == 1)) (y_assign rfl) ?_
  refine c_nil ?_
  rcases bif_some hs with ⟨e9, hs⟩ | ⟨e9, hs⟩
  ·refine c_condT (congrArg Value.bool e9) ?_
   refine c_sr ?_
   refine pl_val (.slice a1 a2 a3) (y_move rfl) ?_
   refine pl_val (.int .i64 (s40.1.length : Int)) (y_len' Sl25 (os_len a0) rfl) ?_
   refine pl_val (.bool (decide (0 < (s40.1.length : Int)))) (y_gtr rfl rfl) ?_
   refine c_nil ?_
   rcases bif_some hs with ⟨f0, hs⟩ | ⟨f0, hs⟩
   ·refine c_condT (congrArg Value.bool f0) ?_
    refine c_region ?_
    refine pl_val (.slice a1 a2 a3) (y_move rfl) ?_
    refine pl_val (.pointer (some ⟨vg0, 0, none⟩)) (y_move rfl) ?_
    refine pl_val (.slice a1 a2 a3) (y_move rfl) ?_
    refine pl_val (.int .i64 (s40.1.length : Int)) (y_len' Sl25 (os_len a0) rfl) ?_
    have k8 := hO
    have h0 := Own.lend (F := (([vg0]) ++ ([]))) (R := a5 ++ ([])) (Own.perm (k8) (by simp))
    obtain ⟨r73, k9, hs⟩ := bind_some hs
    refine pl_call Bd62 rfl (c_spec_l1Cur__pick (M := M) (s40.1.length : Int) (b0.1, r63.2.1, r63.2.2) (show BoxV _ vg0 53 [(.slice va0x0 vn0x0 vc0x0), (.int .i64 r63.2.1), (.int .u64 r63.2.2)] from b1) hl0x0 h0 h0.fut k9) ?_
    rintro _ h1 ⟨rfl, d8, c5, l0⟩
    have hO := hO.perm (R := (([vg0]) ++ ([])) ++ (a5 ++ ([]))) (by simp)
    have hl0x0 := hl0x0.mt d8 hO same_
    have a0 := a0.ma d8 hO same_ (fun _ e => (mem_l (e)))
    have hC := hC.st d8 hO same_
    have hO := Own.join hO d8 l0
    have hO := hO.perm (R := [vg0] ++ (a5 ++ ([]))) (by simp)
    have c5 : BoxV h1 vg0 53 [(.slice va0x0 vn0x0 vc0x0), (.int .i64 r73.2.1), (.int .u64 r73.2.2)] := c5
    refine pl_val (.pointer (some ⟨vg0, 0, none⟩)) (y_move rfl) ?_
    refine pl_val (.slice a1 a2 a3) (y_move rfl) ?_
    refine pl_val (.int .i64 (s40.1.length : Int)) (y_len' Sl25 (os_len a0) rfl) ?_
    refine pl_val (.slice a1 a2 a3) (y_move rfl) ?_
    refine pl_val (.int .i64 (s40.1.length : Int)) (y_len' Sl25 (os_len a0) rfl) ?_
    refine pl_val (.int .i64 (w64 ((s40.1.length : Int) - 1))) (y_sub rfl rfl) ?_
    obtain ⟨h2, b6, l1, h3, c6, h4⟩ := new_block h1 [(.int .i64 (-1)), (.int .i64 (s40.1.length : Int)), (.int .i64 (w64 ((s40.1.length : Int) - 1))), (.int .i64 0)] 3
    refine pl_val (w' := h2) (.slice (some ⟨b6, 0, none⟩) 4 4) (y_bslice rfl (by rw [l1, h3]; kernel_rfl)) ?_
    have hl0x0 := hl0x0.ext c6
    have c5 := c5.cn c6
    have a0 := a0.ext c6
    have hC := hC.ext c6
    have hO := hO.new1 c6 h3 h4.lt
    have b5 := os_of_box (r := (RT.int .i64)) (M := M) (css := [[(.int .i64 (-1))], [(.int .i64 (s40.1.length : Int))], [(.int .i64 (w64 ((s40.1.length : Int) - 1)))], [(.int .i64 0)]]) (fps := [([] : List Nat), ([] : List Nat), ([] : List Nat), ([] : List Nat)]) (xs := ([(-1), (s40.1.length : Int), w64 ((s40.1.length : Int) - 1), 0] : List Int)) h4 ⟨⟨rfl, rfl⟩, ⟨⟨rfl, rfl⟩, ⟨⟨rfl, rfl⟩, ⟨⟨rfl, rfl⟩, trivial⟩⟩⟩⟩ (Nat.le_of_ble_eq_true rfl) (List.nodup_cons.2 ⟨(fun h => nomatch h), List.nodup_nil⟩)
    have b5 : (RT.os 3 (RT.int .i64)).val M h2 (.slice (some ⟨b6, 0, none⟩) 4 4) [(-1), (s40.1.length : Int), w64 ((s40.1.length : Int) - 1), 0] [b6] := b5
    have hO := hO.fr1
    have f1 := hO
    have f1 := f1.fr1
    have h5 := Own.lend (F := (([vg0]) ++ ([]))) (R := a5 ++ ([])) (Own.perm (f1.less) (by simp))
    obtain ⟨r77, l2, hs⟩ := bind_some hs
    refine pl_call Bd61 rfl (c_spec_l1Cur__among (M := (Less M ([b6]))) ([(-1), (s40.1.length : Int), w64 ((s40.1.length : Int) - 1), 0]) (b0.1, r73.2.1, r73.2.2) (((Frz.os Frz.int)).val b5 Less.sub Less.not) (show BoxV _ vg0 53 [(.slice va0x0 vn0x0 vc0x0), (.int .i64 r73.2.1), (.int .u64 r73.2.2)] from c5) (hl0x0.sub Less.sub) h5 h5.fut l2) ?_
    rintro _ l3 ⟨rfl, c7, c8, l4⟩
    have hO := hO.fr1
    have hO := hO.fr1
    have hO := hO.perm (R := (([vg0]) ++ ([])) ++ (([b6]) ++ (a5 ++ ([])))) (by simp)
    have hl0x0 := hl0x0.mt c7 hO same_
    have a0 := a0.ma c7 hO same_ (fun _ e => (mem_r (mem_l (e))))
    have b5 := b5.ma c7 hO same_ (fun _ e => (mem_l (e)))
    have hC := hC.st c7 hO same_
    have hO := Own.join hO c7 l4
    have hO := hO.perm (R := [vg0] ++ (([b6]) ++ (a5 ++ ([])))) (by simp)
    have c8 : BoxV l3 vg0 53 [(.slice va0x0 vn0x0 vc0x0), (.int .i64 r77.2.1), (.int .u64 r77.2.2)] := c8
    obtain ⟨x78, l5, hs⟩ := bind_some hs
    obtain ⟨h6, m6, h7, l6, l7, m7, m8⟩ := os_idx Sl25 Sz3 a0 l5
    refine pl_val (.pointer (some ⟨h6, 0 + Int.toNat r73.1 * 1, none⟩)) (l7 _ _ _ _ _ _ _ _ _ rfl rfl) ?_
    have hO := hO.fr2
    obtain ⟨l8, l9, m0, c9, m1, f2⟩ := os_store (P := Try.prog) (c' := [(.int .i64 r77.1)]) h7 a0 l6 (fun g hg => hO.inM g (os_block a0 g (by simpa using hg))) ⟨rfl, rfl⟩ List.nodup_nil (fun _ h => nomatch h) (fun _ h => .inl h)
    have d9 : ∀ q ∈ [h6], q ∈ a5 := fun q hq => os_block a0 q (by rw [h7]; exact hq)
    refine pl_skip (w' := l8) (ys_store rfl rfl (m0 _ _ rfl Sz3)) ?_
    have hl0x0 := hl0x0.mt c9 hO d9
    have c8 := c8.ap c9 hO d9 (mem_l (List.mem_singleton.2 rfl))
    have b5 := b5.ma c9 hO d9 (fun _ e => (mem_r (mem_l (e))))
    have hC := hC.st c9 hO d9
    have hO := hO.grow c9 (fun q hq => .inl ((m1 q hq).resolve_right (fun h => nomatch h))) (os_nodup f2) f2.fpl
    refine c_nil ?_
    refine c_sr ?_
    refine pl_val (.slice a1 a2 a3) (y_move rfl) ?_
    refine pl_val (.slice a1 a2 a3) (y_assign rfl) ?_
    refine c_nil ?_
    refine wp_ret ?_
    cases hs
    have hO := hO.fr2
    have hO := hO.drop
    have hO := hO.fr1
    have hO := hO.fr1
    exact ⟨_, a1, a2, a3, l9, fr_ovl 59 ⟨rfl, trivial⟩, hC, f2, c8, hO.top⟩
   refine c_condF (congrArg Value.bool f0) ?_
   refine wp_skip ?_
   refine c_sr ?_
   refine pl_val (.slice a1 a2 a3) (y_move rfl) ?_
   refine pl_val (.slice a1 a2 a3) (y_assign rfl) ?_
   refine c_nil ?_
   refine wp_ret ?_
   cases hs
   have hO := hO.fr1
   exact ⟨_, a1, a2, a3, a5, fr_ovl 59 ⟨rfl, trivial⟩, hC, a0, b1, hO.top⟩
  refine c_condF (congrArg Value.bool e9) ?_
  refine wp_skip ?_
  refine c_sr ?_
  refine pl_val (.slice a1 a2 a3) (y_move rfl) ?_
  refine pl_val (.slice a1 a2 a3) (y_assign rfl) ?_
  refine c_nil ?_
  refine wp_ret ?_
  cases hs
  have hO := hO.fr1
  exact ⟨_, a1, a2, a3, a5, fr_ovl 59 ⟨rfl, trivial⟩, hC, a0, b1, hO.top⟩

def k_spec_l1In (M : Nat → Prop) (w0 : World) (r : Bool) (a : Act) (w : World) : Prop :=
  ∃ (σ : Nat → Value) , a = fr 15 (ovl σ [(6, (.bool r))]) ∧ Chg [] w0 w
def s_spec_l1In (x_ : Int) (a_ : Int) (b : Int) : Option (Bool) :=
  (bif (decide (a_ ≤ x_)) then some (decide (x_ ≤ b)) else some false)
set_option maxHeartbeats 4000000 in
theorem c_spec_l1In {M : Nat → Prop} {w : World}  (x_ : Int) (a_ : Int) (b : Int)  (hM : ∀ g, w.heap.size ≤ g → M g) {r : Bool} (hs : s_spec_l1In x_ a_ b = some r) :
    Gives Try.prog 64 [(.int .i64 x_), (.int .i64 a_), (.int .i64 b)] w (fun v w' => v = (.bool r) ∧ Chg [] w w') := by
 refine calls_fr Try.func64 rfl Try.ntmps64 (Nat.le_of_ble_eq_true rfl) ?_
 have hO := Own.start (N := Nw w []) hM Nw.fut
 have hC := Chg.refl [] w
 unfold s_spec_l1In at hs
 refine wp_mono (Q := KPost (k_spec_l1In M w r)) ?_ (fun e a a1 h => ?_)
 rotate_left
 ·cases e
  case ret =>
   obtain ⟨σ, rfl, hrest⟩ := h
   exact ret1x Try.results64 (res_tmp rfl) ⟨rfl, hrest⟩
  all_goals exact (h : False).elim
 refine c_sr ?_
 refine pl_val (.bool false) (y_assign rfl) ?_
 refine c_nil ?_
 refine c_sr ?_
 refine pl_val (.int .i64 x_) (y_move rfl) ?_
 refine pl_val (.int .i64 a_) (y_move rfl) ?_
 refine pl_val (.bool (decide (a_ ≤ x_))) (y_geq rfl rfl) ?_
 refine pl_val (.bool (decide (a_ ≤ x_))) (y_move rfl) ?_
 rcases bif_some hs with ⟨a0, hs⟩ | ⟨a0, hs⟩
 ·skip
  refine pl_yes (.int .i64 x_) (tg := 10) (by kernel_rfl) (congrArg Value.bool a0) (y_move rfl) ?_
  refine pl_yes (.int .i64 b) (tg := 10) (by kernel_rfl) (congrArg Value.bool a0) (y_move rfl) ?_
  refine pl_yes (.bool (decide (x_ ≤ b))) (tg := 10) (by kernel_rfl) (congrArg Value.bool a0) (y_leq rfl rfl) ?_
  refine pl_val (.bool (decide (x_ ≤ b))) (y_pick_t (congrArg Value.bool a0) rfl) ?_
  refine pl_val (.bool (decide (x_ ≤ b))) (y_assign rfl) ?_
  refine c_nil ?_
  refine wp_ret ?_
  cases hs
  exact ⟨_, fr_ovl 15 ⟨rfl, trivial⟩, hC⟩
 refine pl_not (tg := 10) (by kernel_rfl) (congrArg Value.bool a0) ?_
 refine pl_not (tg := 10) (by kernel_rfl) (congrArg Value.bool a0) ?_
 refine pl_not (tg := 10) (by kernel_rfl) (congrArg Value.bool a0) ?_
 refine pl_val (.bool false) (y_pick_f (congrArg Value.bool a0) rfl) ?_
 refine pl_val (.bool false) (y_assign rfl) ?_
 refine c_nil ?_
 refine wp_ret ?_
 cases hs
 exact ⟨_, fr_ovl 15 ⟨rfl, trivial⟩, hC⟩

theorem Bd64 : Bodied Try.prog 64 := bodied Try.func64 (by kernel_rfl) rfl

def k_spec_l6Size (M : Nat → Prop) (w0 : World) (r : Bool) (a : Act) (w : World) : Prop :=
  ∃ (σ : Nat → Value) , a = fr 5 (ovl σ [(2, (.bool r))]) ∧ Chg [] w0 w
def s_spec_l6Size (n : Int) : Option (Bool) :=
  (s_spec_l1In n 1 8).bind fun r2 =>
  some r2
set_option maxHeartbeats 4000000 in
theorem c_spec_l6Size {M : Nat → Prop} {w : World}  (n : Int)  (hM : ∀ g, w.heap.size ≤ g → M g) {r : Bool} (hs : s_spec_l6Size n = some r) :
    Gives Try.prog 34 [(.int .i64 n)] w (fun v w' => v = (.bool r) ∧ Chg [] w w') := by
 refine calls_fr Try.func34 rfl Try.ntmps34 (Nat.le_of_ble_eq_true rfl) ?_
 have hO := Own.start (N := Nw w []) hM Nw.fut
 have hC := Chg.refl [] w
 unfold s_spec_l6Size at hs
 refine wp_mono (Q := KPost (k_spec_l6Size M w r)) ?_ (fun e a a1 h => ?_)
 rotate_left
 ·cases e
  case ret =>
   obtain ⟨σ, rfl, hrest⟩ := h
   exact ret1x Try.results34 (res_tmp rfl) ⟨rfl, hrest⟩
  all_goals exact (h : False).elim
 refine c_sr ?_
 refine pl_val (.bool false) (y_assign rfl) ?_
 refine c_nil ?_
 refine c_sr ?_
 refine pl_val (.int .i64 n) (y_move rfl) ?_
 obtain ⟨r2, a2, hs⟩ := bind_some hs
 refine pl_call Bd64 rfl (c_spec_l1In (M := M) n 1 8  hO.fut a2) ?_
 rintro _ a1 ⟨rfl, a0⟩
 have hC := hC.ext a0
 have hO := hO.ext a0
 refine pl_val (.bool r2) (y_assign rfl) ?_
 refine c_nil ?_
 refine wp_ret ?_
 cases hs
 exact ⟨_, fr_ovl 5 ⟨rfl, trivial⟩, hC⟩

def k_spec_l6Partition (M : Nat → Prop) (w0 : World) (r : Bool) (a : Act) (w : World) : Prop :=
  ∃ (σ : Nat → Value) , a = fr 36 (ovl σ [(4, (.bool r))]) ∧ Chg [] w0 w
def s_spec_l6Partition (n : Int) (p : List Int) : Option (Bool) :=
  (bif ((p.length : Int) != n) then some false else (forC (S := Unit) (R := Bool) (fun k22 s20 =>
  (idx p k22).bind fun x27 =>
  (s_spec_l1In x27 0 k22).bind fun r30 =>
  (bif (!r30) then some (.rt false) else (idx p k22).bind fun x32 =>
  (idx p k22).bind fun x34 =>
  (idx p x32).bind fun x36 =>
  (bif (x36 != x34) then some (.rt false) else some (.nx ())))) 0 n ()).bind fun o24 => after o24 (fun r_ => some r_) (fun s20 =>
  some true))
set_option maxHeartbeats 4000000 in
theorem c_spec_l6Partition {M : Nat → Prop} {w : World} {pa0 : Option Addr} {pn0 pc0 : Nat} (n : Int) (p : List Int) (h0 : (RT.rs (RT.int .i64)).val M w (.slice pa0 pn0 pc0) p ([])) (hM : ∀ g, w.heap.size ≤ g → M g) {r : Bool} (hs : s_spec_l6Partition n p = some r) :
    Gives Try.prog 78 [(.int .i64 n), (.slice pa0 pn0 pc0)] w (fun v w' => v = (.bool r) ∧ Chg [] w w') := by
 refine calls_fr Try.func78 rfl Try.ntmps78 (Nat.le_of_ble_eq_true rfl) ?_
 have hO := Own.start (N := Nw w []) hM Nw.fut
 have hC := Chg.refl [] w
 unfold s_spec_l6Partition at hs
 refine wp_mono (Q := KPost (k_spec_l6Partition M w r)) ?_ (fun e a b2 h => ?_)
 rotate_left
 ·cases e
  case ret =>
   obtain ⟨σ, rfl, hrest⟩ := h
   exact ret1x Try.results78 (res_tmp rfl) ⟨rfl, hrest⟩
  all_goals exact (h : False).elim
 refine c_sr ?_
 refine pl_val (.bool false) (y_assign rfl) ?_
 refine c_nil ?_
 refine c_seq ?_
 refine c_sr ?_
 refine pl_val (.slice pa0 pn0 pc0) (y_move rfl) ?_
 refine pl_val (.int .i64 (p.length : Int)) (y_len' Sl25 (rs_len h0) rfl) ?_
 refine pl_val (.int .i64 n) (y_move rfl) ?_
 refine pl_val (.bool ((p.length : Int) != n)) (y_neq rfl rfl) ?_
 refine c_nil ?_
 rcases bif_some hs with ⟨a4, hs⟩ | ⟨a4, hs⟩
 ·refine c_condT (congrArg Value.bool a4) ?_
  refine c_sr ?_
  refine pl_val (.bool false) (y_assign rfl) ?_
  refine c_nil ?_
  refine wp_ret ?_
  cases hs
  exact ⟨_, fr_ovl 36 ⟨rfl, trivial⟩, hC⟩
 refine c_condF (congrArg Value.bool a4) ?_
 refine wp_skip ?_
 refine c_seq ?_
 refine c_sr ?_
 refine pl_val (.int .i64 0) (y_assign rfl) ?_
 refine c_nil ?_
 obtain ⟨o24, b3, hs⟩ := bind_some hs
 refine wp_block ?_
 refine wp_forC (id := 0) n (I := fun k22 s20 a a1 => ∃ (σ : Nat → Value), a = fr 36 (ovl σ [(0, (.int .i64 n)), (1, (.slice pa0 pn0 pc0)), (5, (.int .i64 k22))]) ∧ Chg [] w a1 ∧ Own (Nw w []) M a1 ([]) ∧ (RT.rs (RT.int .i64)).val M a1 (.slice pa0 pn0 pc0) p ([])) (J := fun s20 a a1 => ∃ (σ : Nat → Value), a = fr 36 (ovl σ []) ∧ Chg [] w a1 ∧ Own (Nw w []) M a1 ([]) ∧ (RT.rs (RT.int .i64)).val M a1 (.slice pa0 pn0 pc0) p ([])) (K := (k_spec_l6Partition M w)) ?_ ?_ 0 () o24 _ _ ?_ b3 ?_
 ·rintro k22 s20 a a1 ⟨σ, rfl, hC, hO, h0⟩ hlt
  refine c_seq ?_
  refine c_sr ?_
  refine pl_val (.int .i64 k22) (y_move rfl) ?_
  refine pl_val (.int .i64 n) (y_move rfl) ?_
  refine pl_val (.bool (decide (k22 < n))) (y_lss rfl rfl) ?_
  refine c_nil ?_
  refine c_condF (congrArg Value.bool (decide_eq_false hlt)) ?_
  refine wp_exit ?_
  exact ⟨rfl, _, fr_ovl 36 trivial, hC, hO, h0⟩
 ·rintro k22 s20 o24 a a1 ⟨σ, rfl, hC, hO, h0⟩ hlt hw hs
  refine c_seq ?_
  refine c_sr ?_
  refine pl_val (.int .i64 k22) (y_move rfl) ?_
  refine pl_val (.int .i64 n) (y_move rfl) ?_
  refine pl_val (.bool (decide (k22 < n))) (y_lss rfl rfl) ?_
  refine c_nil ?_
  refine c_condT (congrArg Value.bool (decide_eq_true hlt)) ?_
  refine wp_skip ?_
  refine c_seq ?_
  refine wp_block ?_
  refine c_seq ?_
  refine x_start [] Mx rfl ?_
  have a3 := Chg.drew a1
  generalize World.drew a1 = b4 at a3 ⊢
  have h0 := h0.ext a3
  have hC := hC.ext a3
  have hO := hO.ext a3
  have hS := Chg.refl [] b4
  refine x_p 0 (.slice pa0 pn0 pc0) rfl (by kernel_rfl)  (fun _ => y_move rfl) (fun _ => hS) ?_
  refine x_p 1 (.int .i64 k22) rfl (by kernel_rfl)  (fun _ => y_move rfl) (fun _ => hS) ?_
  obtain ⟨x27, b5, hs⟩ := bind_some hs
  obtain ⟨b6, b7, b8, b9⟩ := rs_idx Sl25 Sz3 h0 b5
  refine x_p 2 (.pointer (some ⟨b6, b7, none⟩)) rfl (by kernel_rfl)  (fun _ => b8 _ _ _ _ _ _ _ _ _ rfl rfl) (fun _ => hS) ?_
  refine x_l 3 (.int .i64 x27) rfl (by kernel_rfl)  (fun w' hw' => y_load rfl ((at_load_int Ag3 Sz3 b9) w' hw')) hS ?_
  refine x_p 4 (.int .i64 k22) rfl (by kernel_rfl)  (fun _ => y_move rfl) (fun _ => hS) ?_
  refine x_one (i := 5) (by kernel_rfl) ?_
  obtain ⟨r30, c0, hs⟩ := bind_some hs
  refine xk_call (b := false) rfl  Bd64 rfl (c_spec_l1In (M := M) x27 0 k22  hO.fut c0) rfl (by rintro _ _ _ ⟨rfl, a2⟩; exact hS.ext a2) ?_
  rintro _ d7 ⟨rfl, a2⟩
  have h0 := h0.ext a2
  have hC := hC.ext a2
  have hO := hO.ext a2
  have hS := hS.ext a2
  refine x_p 6 (.bool (!r30)) rfl (by kernel_rfl)  (fun _ => y_not rfl) (fun _ => hS) ?_
  refine x_p 7 (.bool (!r30)) rfl (by kernel_rfl)  (fun _ => y_move rfl) (fun _ => hS) ?_
  rcases bif_some hs with ⟨a0, hs⟩ | ⟨a0, hs⟩
  ·skip
   refine x_pn 8 rfl (by kernel_rfl) (tg := 22) (by kernel_rfl) (congrArg Value.bool a0) (fun _ => hS) ?_
   refine x_pn 9 rfl (by kernel_rfl) (tg := 22) (by kernel_rfl) (congrArg Value.bool a0) (fun _ => hS) ?_
   refine x_pn 10 rfl (by kernel_rfl) (tg := 22) (by kernel_rfl) (congrArg Value.bool a0) (fun _ => hS) ?_
   refine x_pn 11 rfl (by kernel_rfl) (tg := 22) (by kernel_rfl) (congrArg Value.bool a0) (fun _ => hS) ?_
   refine x_pn 12 rfl (by kernel_rfl) (tg := 22) (by kernel_rfl) (congrArg Value.bool a0) (fun _ => hS) ?_
   refine x_pn 13 rfl (by kernel_rfl) (tg := 22) (by kernel_rfl) (congrArg Value.bool a0) (fun _ => hS) ?_
   refine x_pn 14 rfl (by kernel_rfl) (tg := 22) (by kernel_rfl) (congrArg Value.bool a0) (fun _ => hS) ?_
   refine x_pn 15 rfl (by kernel_rfl) (tg := 22) (by kernel_rfl) (congrArg Value.bool a0) (fun _ => hS) ?_
   refine x_pn 16 rfl (by kernel_rfl) (tg := 22) (by kernel_rfl) (congrArg Value.bool a0) (fun _ => hS) ?_
   refine x_pn 17 rfl (by kernel_rfl) (tg := 22) (by kernel_rfl) (congrArg Value.bool a0) (fun _ => hS) ?_
   refine x_pn 18 rfl (by kernel_rfl) (tg := 22) (by kernel_rfl) (congrArg Value.bool a0) (fun _ => hS) ?_
   refine x_pn 19 rfl (by kernel_rfl) (tg := 22) (by kernel_rfl) (congrArg Value.bool a0) (fun _ => hS) ?_
   refine x_p 20 (.bool true) rfl (by kernel_rfl)  (fun _ => y_pick_t (congrArg Value.bool a0) rfl) (fun _ => hS) ?_
   refine x_end (by kernel_rfl) ?_
   clear hS
   refine c_condT (by rfl) ?_
   refine c_sr ?_
   refine pl_val (.bool false) (y_assign rfl) ?_
   refine c_nil ?_
   refine wp_ret ?_
   cases hs
   exact ⟨_, fr_ovl 36 ⟨rfl, trivial⟩, hC⟩
  refine x_py 8 (.slice pa0 pn0 pc0) rfl (by kernel_rfl) (tg := 22) (by kernel_rfl) (congrArg Value.bool a0) (fun _ => y_move rfl) (fun _ => hS) ?_
  refine x_py 9 (.slice pa0 pn0 pc0) rfl (by kernel_rfl) (tg := 22) (by kernel_rfl) (congrArg Value.bool a0) (fun _ => y_move rfl) (fun _ => hS) ?_
  refine x_py 10 (.int .i64 k22) rfl (by kernel_rfl) (tg := 22) (by kernel_rfl) (congrArg Value.bool a0) (fun _ => y_move rfl) (fun _ => hS) ?_
  obtain ⟨x32, c1, hs⟩ := bind_some hs
  obtain ⟨c2, c3, c4, b0⟩ := rs_idx Sl25 Sz3 h0 c1
  refine x_py 11 (.pointer (some ⟨c2, c3, none⟩)) rfl (by kernel_rfl) (tg := 22) (by kernel_rfl) (congrArg Value.bool a0) (fun _ => c4 _ _ _ _ _ _ _ _ _ rfl rfl) (fun _ => hS) ?_
  refine x_py 15 (.slice pa0 pn0 pc0) rfl (by kernel_rfl) (tg := 22) (by kernel_rfl) (congrArg Value.bool a0) (fun _ => y_move rfl) (fun _ => hS) ?_
  refine x_py 16 (.int .i64 k22) rfl (by kernel_rfl) (tg := 22) (by kernel_rfl) (congrArg Value.bool a0) (fun _ => y_move rfl) (fun _ => hS) ?_
  obtain ⟨x34, c5, hs⟩ := bind_some hs
  obtain ⟨c6, c7, c8, a5⟩ := rs_idx Sl25 Sz3 h0 c5
  refine x_py 17 (.pointer (some ⟨c6, c7, none⟩)) rfl (by kernel_rfl) (tg := 22) (by kernel_rfl) (congrArg Value.bool a0) (fun _ => c8 _ _ _ _ _ _ _ _ _ rfl rfl) (fun _ => hS) ?_
  refine x_two (i := 12) (j := 18) (by kernel_rfl) ?_ ?_
  ·skip
   refine xk_valy (b := false) (.int .i64 x32) rfl (tg := 22) (by kernel_rfl) (congrArg Value.bool a0) (y_load rfl ((at_load_int Ag3 Sz3 b0) _ (Chg.refl _ _))) rfl (fun _ => hS) ?_
   obtain ⟨x36, a6, hs⟩ := bind_some hs
   obtain ⟨c9, d0, d1, b1⟩ := rs_idx Sl25 Sz3 h0 a6
   refine x_py 13 (.pointer (some ⟨c9, d0, none⟩)) rfl (by kernel_rfl) (tg := 22) (by kernel_rfl) (congrArg Value.bool a0) (fun _ => d1 _ _ _ _ _ _ _ _ _ rfl rfl) (fun _ => hS) ?_
   refine x_two (i := 14) (j := 18) (by kernel_rfl) ?_ ?_
   ·skip
    refine xk_valy (b := false) (.int .i64 x36) rfl (tg := 22) (by kernel_rfl) (congrArg Value.bool a0) (y_load rfl ((at_load_int Ag3 Sz3 b1) _ (Chg.refl _ _))) rfl (fun _ => hS) ?_
    refine x_one (i := 18) (by kernel_rfl) ?_
    refine xk_valy (b := false) (.int .i64 x34) rfl (tg := 22) (by kernel_rfl) (congrArg Value.bool a0) (y_load rfl ((at_load_int Ag3 Sz3 a5) _ (Chg.refl _ _))) rfl (fun _ => hS) ?_
    refine x_py 19 (.bool (x36 != x34)) rfl (by kernel_rfl) (tg := 22) (by kernel_rfl) (congrArg Value.bool a0) (fun _ => y_neq rfl rfl) (fun _ => hS) ?_
    refine x_p 20 (.bool (x36 != x34)) rfl (by kernel_rfl)  (fun _ => y_pick_f (congrArg Value.bool a0) rfl) (fun _ => hS) ?_
    refine x_end (by kernel_rfl) ?_
    clear hS
    rcases bif_some hs with ⟨a7, hs⟩ | ⟨a7, hs⟩
    ·refine c_condT (congrArg Value.bool a7) ?_
     refine c_sr ?_
     refine pl_val (.bool false) (y_assign rfl) ?_
     refine c_nil ?_
     refine wp_ret ?_
     cases hs
     exact ⟨_, fr_ovl 36 ⟨rfl, trivial⟩, hC⟩
    refine c_condF (congrArg Value.bool a7) ?_
    refine wp_skip ?_
    refine c_region ?_
    refine pl_val (.int .i64 k22) (y_move rfl) ?_
    refine pl_val (.int .i64 (w64 (k22 + 1))) (y_add rfl rfl) ?_
    refine pl_val (.int .i64 (w64 (k22 + 1))) (y_assign rfl) ?_
    refine c_nil ?_
    cases hs
    exact ⟨_, fr_ovl 36 ⟨rfl, rfl, congrArg (Value.int .i64) hw, trivial⟩, hC, hO, h0⟩
   ·skip
    refine xk_valy (b := false) (.int .i64 x34) rfl (tg := 22) (by kernel_rfl) (congrArg Value.bool a0) (y_load rfl ((at_load_int Ag3 Sz3 a5) _ (Chg.refl _ _))) rfl (fun _ => hS) ?_
    refine x_one (i := 14) (by kernel_rfl) ?_
    refine xk_valy (b := false) (.int .i64 x36) rfl (tg := 22) (by kernel_rfl) (congrArg Value.bool a0) (y_load rfl ((at_load_int Ag3 Sz3 b1) _ (Chg.refl _ _))) rfl (fun _ => hS) ?_
    refine x_py 19 (.bool (x36 != x34)) rfl (by kernel_rfl) (tg := 22) (by kernel_rfl) (congrArg Value.bool a0) (fun _ => y_neq rfl rfl) (fun _ => hS) ?_
    refine x_p 20 (.bool (x36 != x34)) rfl (by kernel_rfl)  (fun _ => y_pick_f (congrArg Value.bool a0) rfl) (fun _ => hS) ?_
    refine x_end (by kernel_rfl) ?_
    clear hS
    rcases bif_some hs with ⟨a8, hs⟩ | ⟨a8, hs⟩
    ·refine c_condT (congrArg Value.bool a8) ?_
     refine c_sr ?_
     refine pl_val (.bool false) (y_assign rfl) ?_
     refine c_nil ?_
     refine wp_ret ?_
     cases hs
     exact ⟨_, fr_ovl 36 ⟨rfl, trivial⟩, hC⟩
    refine c_condF (congrArg Value.bool a8) ?_
    refine wp_skip ?_
    refine c_region ?_
    refine pl_val (.int .i64 k22) (y_move rfl) ?_
    refine pl_val (.int .i64 (w64 (k22 + 1))) (y_add rfl rfl) ?_
    refine pl_val (.int .i64 (w64 (k22 + 1))) (y_assign rfl) ?_
    refine c_nil ?_
    cases hs
    exact ⟨_, fr_ovl 36 ⟨rfl, rfl, congrArg (Value.int .i64) hw, trivial⟩, hC, hO, h0⟩
  ·skip
   refine xk_valy (b := false) (.int .i64 x34) rfl (tg := 22) (by kernel_rfl) (congrArg Value.bool a0) (y_load rfl ((at_load_int Ag3 Sz3 a5) _ (Chg.refl _ _))) rfl (fun _ => hS) ?_
   refine x_one (i := 12) (by kernel_rfl) ?_
   refine xk_valy (b := false) (.int .i64 x32) rfl (tg := 22) (by kernel_rfl) (congrArg Value.bool a0) (y_load rfl ((at_load_int Ag3 Sz3 b0) _ (Chg.refl _ _))) rfl (fun _ => hS) ?_
   obtain ⟨x36, a6, hs⟩ := bind_some hs
   obtain ⟨d2, d3, d4, d5⟩ := rs_idx Sl25 Sz3 h0 a6
   refine x_py 13 (.pointer (some ⟨d2, d3, none⟩)) rfl (by kernel_rfl) (tg := 22) (by kernel_rfl) (congrArg Value.bool a0) (fun _ => d4 _ _ _ _ _ _ _ _ _ rfl rfl) (fun _ => hS) ?_
   refine x_one (i := 14) (by kernel_rfl) ?_
   refine xk_valy (b := false) (.int .i64 x36) rfl (tg := 22) (by kernel_rfl) (congrArg Value.bool a0) (y_load rfl ((at_load_int Ag3 Sz3 d5) _ (Chg.refl _ _))) rfl (fun _ => hS) ?_
   refine x_py 19 (.bool (x36 != x34)) rfl (by kernel_rfl) (tg := 22) (by kernel_rfl) (congrArg Value.bool a0) (fun _ => y_neq rfl rfl) (fun _ => hS) ?_
   refine x_p 20 (.bool (x36 != x34)) rfl (by kernel_rfl)  (fun _ => y_pick_f (congrArg Value.bool a0) rfl) (fun _ => hS) ?_
   refine x_end (by kernel_rfl) ?_
   clear hS
   rcases bif_some hs with ⟨a9, hs⟩ | ⟨a9, hs⟩
   ·refine c_condT (congrArg Value.bool a9) ?_
    refine c_sr ?_
    refine pl_val (.bool false) (y_assign rfl) ?_
    refine c_nil ?_
    refine wp_ret ?_
    cases hs
    exact ⟨_, fr_ovl 36 ⟨rfl, trivial⟩, hC⟩
   refine c_condF (congrArg Value.bool a9) ?_
   refine wp_skip ?_
   refine c_region ?_
   refine pl_val (.int .i64 k22) (y_move rfl) ?_
   refine pl_val (.int .i64 (w64 (k22 + 1))) (y_add rfl rfl) ?_
   refine pl_val (.int .i64 (w64 (k22 + 1))) (y_assign rfl) ?_
   refine c_nil ?_
   cases hs
   exact ⟨_, fr_ovl 36 ⟨rfl, rfl, congrArg (Value.int .i64) hw, trivial⟩, hC, hO, h0⟩
 ·skip
  exact ⟨_, fr_ovl 36 ⟨rfl, rfl, rfl, trivial⟩, hC, hO, h0⟩
 cases o24 with
 | nx _ => exact True.intro
 | rt r_ =>
  have hs := after_rt hs
  intro d6 b2 hK
  cases hs
  exact hK
 | br s20 =>
  have hs := after_br hs
  rintro d6 a1 ⟨σ, rfl, hC, hO, h0⟩
  refine c_sr ?_
  refine pl_val (.bool true) (y_assign rfl) ?_
  refine c_nil ?_
  refine wp_ret ?_
  cases hs
  exact ⟨_, fr_ovl 36 ⟨rfl, trivial⟩, hC⟩

theorem Bd34 : Bodied Try.prog 34 := bodied Try.func34 (by kernel_rfl) rfl

theorem Bd78 : Bodied Try.prog 78 := bodied Try.func78 (by kernel_rfl) rfl

def k_spec_l6Two (M : Nat → Prop) (w0 : World) (r : Bool) (a : Act) (w : World) : Prop :=
  ∃ (σ : Nat → Value) , a = fr 19 (ovl σ [(6, (.bool r))]) ∧ Chg [] w0 w
def s_spec_l6Two (n : Int) (p : List Int) (q : List Int) : Option (Bool) :=
  (s_spec_l6Size n).bind fun r4 =>
  (bif r4 then (s_spec_l6Partition n p).bind fun r7 =>
  (bif r7 then (s_spec_l6Partition n q).bind fun r10 =>
  some r10 else some false) else some false)
set_option maxHeartbeats 4000000 in
theorem c_spec_l6Two {M : Nat → Prop} {w : World} {pa0 : Option Addr} {pn0 pc0 : Nat} {pa1 : Option Addr} {pn1 pc1 : Nat} (n : Int) (p : List Int) (q : List Int) (h0 : (RT.rs (RT.int .i64)).val M w (.slice pa0 pn0 pc0) p ([])) (h1 : (RT.rs (RT.int .i64)).val M w (.slice pa1 pn1 pc1) q ([])) (hM : ∀ g, w.heap.size ≤ g → M g) {r : Bool} (hs : s_spec_l6Two n p q = some r) :
    Gives Try.prog 74 [(.int .i64 n), (.slice pa0 pn0 pc0), (.slice pa1 pn1 pc1)] w (fun v w' => v = (.bool r) ∧ Chg [] w w') := by
 refine calls_fr Try.func74 rfl Try.ntmps74 (Nat.le_of_ble_eq_true rfl) ?_
 have hO := Own.start (N := Nw w []) hM Nw.fut
 have hC := Chg.refl [] w
 unfold s_spec_l6Two at hs
 refine wp_mono (Q := KPost (k_spec_l6Two M w r)) ?_ (fun e a a8 h => ?_)
 rotate_left
 ·cases e
  case ret =>
   obtain ⟨σ, rfl, hrest⟩ := h
   exact ret1x Try.results74 (res_tmp rfl) ⟨rfl, hrest⟩
  all_goals exact (h : False).elim
 refine c_sr ?_
 refine pl_val (.bool false) (y_assign rfl) ?_
 refine c_nil ?_
 refine c_sr ?_
 refine pl_val (.int .i64 n) (y_move rfl) ?_
 obtain ⟨r4, a5, hs⟩ := bind_some hs
 refine pl_call Bd34 rfl (c_spec_l6Size (M := M) n  hO.fut a5) ?_
 rintro _ a9 ⟨rfl, a2⟩
 have h0 := h0.ext a2
 have h1 := h1.ext a2
 have hC := hC.ext a2
 have hO := hO.ext a2
 refine pl_val (.bool r4) (y_move rfl) ?_
 rcases bif_some hs with ⟨a0, hs⟩ | ⟨a0, hs⟩
 ·skip
  refine pl_yes (.int .i64 n) (tg := 9) (by kernel_rfl) (congrArg Value.bool a0) (y_move rfl) ?_
  refine pl_yes (.slice pa0 pn0 pc0) (tg := 9) (by kernel_rfl) (congrArg Value.bool a0) (y_move rfl) ?_
  obtain ⟨r7, a6, hs⟩ := bind_some hs
  refine pl_cally (tg := 9) (by kernel_rfl) (congrArg Value.bool a0) Bd78 rfl (c_spec_l6Partition (M := M) n p h0 hO.fut a6) ?_
  rintro _ b0 ⟨rfl, a3⟩
  have h0 := h0.ext a3
  have h1 := h1.ext a3
  have hC := hC.ext a3
  have hO := hO.ext a3
  refine pl_val (.bool r7) (y_pick_t (congrArg Value.bool a0) rfl) ?_
  refine pl_val (.bool r7) (y_move rfl) ?_
  rcases bif_some hs with ⟨a1, hs⟩ | ⟨a1, hs⟩
  ·skip
   refine pl_yes (.int .i64 n) (tg := 14) (by kernel_rfl) (congrArg Value.bool a1) (y_move rfl) ?_
   refine pl_yes (.slice pa1 pn1 pc1) (tg := 14) (by kernel_rfl) (congrArg Value.bool a1) (y_move rfl) ?_
   obtain ⟨r10, a7, hs⟩ := bind_some hs
   refine pl_cally (tg := 14) (by kernel_rfl) (congrArg Value.bool a1) Bd78 rfl (c_spec_l6Partition (M := M) n q h1 hO.fut a7) ?_
   rintro _ b1 ⟨rfl, a4⟩
   have h0 := h0.ext a4
   have h1 := h1.ext a4
   have hC := hC.ext a4
   have hO := hO.ext a4
   refine pl_val (.bool r10) (y_pick_t (congrArg Value.bool a1) rfl) ?_
   refine pl_val (.bool r10) (y_assign rfl) ?_
   refine c_nil ?_
   refine wp_ret ?_
   cases hs
   exact ⟨_, fr_ovl 19 ⟨rfl, trivial⟩, hC⟩
  refine pl_not (tg := 14) (by kernel_rfl) (congrArg Value.bool a1) ?_
  refine pl_not (tg := 14) (by kernel_rfl) (congrArg Value.bool a1) ?_
  refine pl_not (tg := 14) (by kernel_rfl) (congrArg Value.bool a1) ?_
  refine pl_val (.bool false) (y_pick_f (congrArg Value.bool a1) rfl) ?_
  refine pl_val (.bool false) (y_assign rfl) ?_
  refine c_nil ?_
  refine wp_ret ?_
  cases hs
  exact ⟨_, fr_ovl 19 ⟨rfl, trivial⟩, hC⟩
 refine pl_not (tg := 9) (by kernel_rfl) (congrArg Value.bool a0) ?_
 refine pl_not (tg := 9) (by kernel_rfl) (congrArg Value.bool a0) ?_
 refine pl_not (tg := 9) (by kernel_rfl) (congrArg Value.bool a0) ?_
 refine pl_val (.bool false) (y_pick_f (congrArg Value.bool a0) rfl) ?_
 refine pl_val (.bool false) (y_move rfl) ?_
 refine pl_not (tg := 14) (by kernel_rfl) (by rfl) ?_
 refine pl_not (tg := 14) (by kernel_rfl) (by rfl) ?_
 refine pl_not (tg := 14) (by kernel_rfl) (by rfl) ?_
 refine pl_val (.bool false) (y_pick_f (by rfl) rfl) ?_
 refine pl_val (.bool false) (y_assign rfl) ?_
 refine c_nil ?_
 refine wp_ret ?_
 cases hs
 exact ⟨_, fr_ovl 19 ⟨rfl, trivial⟩, hC⟩

def k_spec_l1Cur__one (M : Nat → Prop) (w0 : World) (vg0 : Nat) (va0x0 : Option Addr) (vn0x0 vc0x0 : Nat) (n : Int) (b0 : (List Int) × Int × Int) (r : Bool × Int × Int) (a : Act) (w : World) : Prop :=
  ∃ (σ : Nat → Value) , a = fr 9 (ovl σ [(4, (.bool r.1))]) ∧ Chg ([vg0] ++ ([])) w0 w ∧ BoxV w vg0 53 [(.slice va0x0 vn0x0 vc0x0), (.int .i64 r.2.1), (.int .u64 r.2.2)] ∧ Own (Nw w0 ([vg0] ++ ([]))) (fun _ => True) w ([vg0] ++ ([]))
def s_spec_l1Cur__one (n : Int) (b0 : (List Int) × Int × Int) : Option (Bool × Int × Int) :=
  (s_spec_l1Cur__pick n (b0.1, b0.2.1, b0.2.2)).bind fun r4 =>
  some ((r4.1 == 0), r4.2.1, r4.2.2)
set_option maxHeartbeats 4000000 in
theorem c_spec_l1Cur__one {M : Nat → Prop} {w : World} {vg0 : Nat} {va0x0 : Option Addr} {vn0x0 vc0x0 : Nat} (n : Int) (b0 : (List Int) × Int × Int) (hb0 : BoxV w vg0 53 [(.slice va0x0 vn0x0 vc0x0), (.int .i64 b0.2.1), (.int .u64 b0.2.2)]) (hl0x0 : (RT.rs (RT.int .u8)).val M w (.slice va0x0 vn0x0 vc0x0) b0.1 ([])) (hI : Own (Nw w ([vg0] ++ ([]))) M w ([vg0] ++ ([]))) (hM : ∀ g, w.heap.size ≤ g → M g) {r : Bool × Int × Int} (hs : s_spec_l1Cur__one n b0 = some r) :
    Gives Try.prog 75 [(.pointer (some ⟨vg0, 0, none⟩)), (.int .i64 n)] w (fun v w' => v = (.bool r.1) ∧ Chg ([vg0] ++ ([])) w w' ∧ BoxV w' vg0 53 [(.slice va0x0 vn0x0 vc0x0), (.int .i64 r.2.1), (.int .u64 r.2.2)] ∧ Own (Nw w ([vg0] ++ ([]))) (fun _ => True) w' ([vg0] ++ ([]))) := by
 refine calls_fr Try.func75 rfl Try.ntmps75 (Nat.le_of_ble_eq_true rfl) ?_
 have hO := hI
 have hC := Chg.refl ([vg0] ++ ([])) w
 unfold s_spec_l1Cur__one at hs
 refine wp_mono (Q := KPost (k_spec_l1Cur__one M w vg0 va0x0 vn0x0 vc0x0 n b0 r)) ?_ (fun e a a7 h => ?_)
 rotate_left
 ·cases e
  case ret =>
   obtain ⟨σ, rfl, hrest⟩ := h
   exact ret1x Try.results75 (res_tmp rfl) ⟨rfl, hrest⟩
  all_goals exact (h : False).elim
 refine c_sr ?_
 refine pl_val (.bool false) (y_assign rfl) ?_
 refine c_nil ?_
 refine c_sr ?_
 refine pl_val (.pointer (some ⟨vg0, 0, none⟩)) (y_move rfl) ?_
 refine pl_val (.int .i64 n) (y_move rfl) ?_
 have a3 := hO
 have a2 := Own.lend (F := (([vg0]) ++ ([]))) (R := []) (Own.perm (a3) (by simp))
 obtain ⟨r4, a4, hs⟩ := bind_some hs
 refine pl_call Bd62 rfl (c_spec_l1Cur__pick (M := M) n (b0.1, b0.2.1, b0.2.2) (show BoxV _ vg0 53 [(.slice va0x0 vn0x0 vc0x0), (.int .i64 b0.2.1), (.int .u64 b0.2.2)] from hb0) hl0x0 a2 a2.fut a4) ?_
 rintro _ a5 ⟨rfl, a0, a1, a6⟩
 have hO := hO.perm (R := (([vg0]) ++ ([])) ++ ([])) (by simp)
 have hl0x0 := hl0x0.mt a0 hO same_
 have hC := hC.st a0 hO same_
 have hO := Own.join hO a0 a6
 have hO := hO.perm (R := [vg0] ++ ([])) (by simp)
 have a1 : BoxV a5 vg0 53 [(.slice va0x0 vn0x0 vc0x0), (.int .i64 r4.2.1), (.int .u64 r4.2.2)] := a1
 refine pl_val (.bool (r4.1 == 0)) (y_eql rfl rfl) ?_
 refine pl_val (.bool (r4.1 == 0)) (y_assign rfl) ?_
 refine c_nil ?_
 refine wp_ret ?_
 cases hs
 exact ⟨_, fr_ovl 9 ⟨rfl, trivial⟩, hC, a1, hO.top⟩

def k_spec_l6Meet (M : Nat → Prop) (w0 : World) (r : (List Int)) (a : Act) (w : World) : Prop :=
  ∃ (σ : Nat → Value) (ra0 : Option Addr) (rn0 rc0 : Nat) (rf0 : List Nat), a = fr 42 (ovl σ [(4, (.slice ra0 rn0 rc0))]) ∧ Chg [] w0 w ∧ (RT.os 3 (RT.int .i64)).val M w (.slice ra0 rn0 rc0) r rf0 ∧ Own (Nw w0 []) (fun _ => True) w (rf0 ++ ([]))
def s_spec_l6Meet (p : List Int) (q : List Int) : Option ((List Int)) :=
  (forC (S := (List Int)) (R := (List Int)) (fun k42 s40 =>
  (iter (S := Int) (R := (List Int)) (fun s61 =>
  (idx p s61).bind fun x68 =>
  (idx p k42).bind fun x70 =>
  (bif (x68 != x70) then some (.nx (w64 (s61 + 1))) else (idx q s61).bind fun x73 =>
  (idx q k42).bind fun x75 =>
  (bif (x73 != x75) then some (.nx (w64 (s61 + 1))) else some (.br s61)))) FU 0).bind fun o65 => after o65 (fun r_ => some (.rt r_)) (fun s61 =>
  (app s40 ([s61])).bind fun y81 =>
  some (.nx y81))) 0 (p.length : Int) ([])).bind fun o44 => after o44 (fun r_ => some r_) (fun s40 =>
  some s40)
set_option maxHeartbeats 4000000 in
theorem c_spec_l6Meet {M : Nat → Prop} {w : World} {pa0 : Option Addr} {pn0 pc0 : Nat} {pa1 : Option Addr} {pn1 pc1 : Nat} (p : List Int) (q : List Int) (h0 : (RT.rs (RT.int .i64)).val M w (.slice pa0 pn0 pc0) p ([])) (h1 : (RT.rs (RT.int .i64)).val M w (.slice pa1 pn1 pc1) q ([])) (hM : ∀ g, w.heap.size ≤ g → M g) {r : (List Int)} (hs : s_spec_l6Meet p q = some r) :
    Gives Try.prog 76 [(.slice pa0 pn0 pc0), (.slice pa1 pn1 pc1)] w (fun v w' => ∃ (ra0 : Option Addr) (rn0 rc0 : Nat) (rf0 : List Nat), v = (.slice ra0 rn0 rc0) ∧ Chg [] w w' ∧ (RT.os 3 (RT.int .i64)).val M w' (.slice ra0 rn0 rc0) r rf0 ∧ Own (Nw w []) (fun _ => True) w' (rf0 ++ ([]))) := by
 refine calls_fr Try.func76 rfl Try.ntmps76 (Nat.le_of_ble_eq_true rfl) ?_
 have hO := Own.start (N := Nw w []) hM Nw.fut
 have hC := Chg.refl [] w
 unfold s_spec_l6Meet at hs
 refine wp_mono (Q := KPost (k_spec_l6Meet M w r)) ?_ (fun e a c7 h => ?_)
 rotate_left
 ·cases e
  case ret =>
   obtain ⟨σ, ra0, rn0, rc0, rf0, rfl, hrest⟩ := h
   exact ret1x Try.results76 (res_tmp rfl) ⟨ra0, rn0, rc0, rf0, rfl, hrest⟩
  all_goals exact (h : False).elim
 refine c_sr ?_
 refine pl_val (.slice none 0 0) (y_assign rfl) ?_
 refine c_nil ?_
 refine c_sr ?_
 obtain ⟨c8, a8, d4, c9, b4, d0⟩ := new_block w [] 3
 refine pl_val (w' := c8) (.slice (some ⟨a8, 0, none⟩) 0 0) (y_bslice rfl (by rw [d4, c9]; kernel_rfl)) ?_
 have h0 := h0.ext b4
 have h1 := h1.ext b4
 have hC := hC.ext b4
 have hO := hO.new1 b4 c9 d0.lt
 have b7 := os_of_box (r := (RT.int .i64)) (M := M) (css := []) (fps := []) (xs := ([] : List Int)) d0 trivial (Nat.zero_le _) (List.nodup_cons.2 ⟨(fun h => nomatch h), List.nodup_nil⟩)
 have b7 : (RT.os 3 (RT.int .i64)).val M c8 (.slice (some ⟨a8, 0, none⟩) 0 0) [] [a8] := b7
 refine pl_val (.slice (some ⟨a8, 0, none⟩) 0 0) (y_assign rfl) ?_
 refine c_nil ?_
 refine c_seq ?_
 refine c_sr ?_
 refine pl_val (.int .i64 0) (y_assign rfl) ?_
 refine c_nil ?_
 obtain ⟨o44, d5, hs⟩ := bind_some hs
 refine wp_block ?_
 refine wp_forC (id := 0) (p.length : Int) (I := fun k42 s40 a a2 => ∃ (σ : Nat → Value) (a4 : Option Addr) (a5 : Nat) (a6 : Nat) (a7 : List Nat), a = fr 42 (ovl σ [(0, (.slice pa0 pn0 pc0)), (1, (.slice pa1 pn1 pc1)), (5, (.slice a4 a5 a6)), (6, (.int .i64 k42))]) ∧ Chg [] w a2 ∧ Own (Nw w []) M a2 (a7 ++ []) ∧ (RT.rs (RT.int .i64)).val M a2 (.slice pa0 pn0 pc0) p ([]) ∧ (RT.rs (RT.int .i64)).val M a2 (.slice pa1 pn1 pc1) q ([]) ∧ (RT.os 3 (RT.int .i64)).val M a2 (.slice a4 a5 a6) s40 a7) (J := fun s40 a a2 => ∃ (σ : Nat → Value) (a9 : Option Addr) (b0 : Nat) (b1 : Nat) (b5 : List Nat), a = fr 42 (ovl σ [(5, (.slice a9 b0 b1))]) ∧ Chg [] w a2 ∧ Own (Nw w []) M a2 (b5 ++ []) ∧ (RT.rs (RT.int .i64)).val M a2 (.slice pa0 pn0 pc0) p ([]) ∧ (RT.rs (RT.int .i64)).val M a2 (.slice pa1 pn1 pc1) q ([]) ∧ (RT.os 3 (RT.int .i64)).val M a2 (.slice a9 b0 b1) s40 b5) (K := (k_spec_l6Meet M w)) ?_ ?_ 0 ([]) o44 _ _ ?_ d5 ?_
 ·rintro k42 s40 a a2 ⟨σ, a4, a5, a6, a7, rfl, hC, hO, h0, h1, a3⟩ hlt
  refine c_seq ?_
  refine c_sr ?_
  refine pl_val (.int .i64 k42) (y_move rfl) ?_
  refine pl_val (.slice pa0 pn0 pc0) (y_move rfl) ?_
  refine pl_val (.int .i64 (p.length : Int)) (y_len' Sl25 (rs_len h0) rfl) ?_
  refine pl_val (.bool (decide (k42 < (p.length : Int)))) (y_lss rfl rfl) ?_
  refine c_nil ?_
  refine c_condF (congrArg Value.bool (decide_eq_false hlt)) ?_
  refine wp_exit ?_
  exact ⟨rfl, _, a4, a5, a6, a7, fr_ovl 42 ⟨rfl, trivial⟩, hC, hO, h0, h1, a3⟩
 ·rintro k42 s40 o44 a a2 ⟨σ, a4, a5, a6, a7, rfl, hC, hO, h0, h1, a3⟩ hlt hw hs
  refine c_seq ?_
  refine c_sr ?_
  refine pl_val (.int .i64 k42) (y_move rfl) ?_
  refine pl_val (.slice pa0 pn0 pc0) (y_move rfl) ?_
  refine pl_val (.int .i64 (p.length : Int)) (y_len' Sl25 (rs_len h0) rfl) ?_
  refine pl_val (.bool (decide (k42 < (p.length : Int)))) (y_lss rfl rfl) ?_
  refine c_nil ?_
  refine c_condT (congrArg Value.bool (decide_eq_true hlt)) ?_
  refine wp_skip ?_
  refine c_seq ?_
  refine wp_block ?_
  refine c_sr ?_
  refine pl_val (.int .i64 0) (y_assign rfl) ?_
  refine c_nil ?_
  refine c_seq ?_
  obtain ⟨o65, d6, hs⟩ := bind_some hs
  refine wp_block ?_
  refine wp_iter (id := 2) (I := fun s61 a a1 => ∃ (σ : Nat → Value), a = fr 42 (ovl σ [(0, (.slice pa0 pn0 pc0)), (1, (.slice pa1 pn1 pc1)), (5, (.slice a4 a5 a6)), (6, (.int .i64 k42)), (7, (.int .i64 s61))]) ∧ Chg [] w a1 ∧ Own (Nw w []) M a1 (a7 ++ []) ∧ (RT.rs (RT.int .i64)).val M a1 (.slice pa0 pn0 pc0) p ([]) ∧ (RT.rs (RT.int .i64)).val M a1 (.slice pa1 pn1 pc1) q ([]) ∧ (RT.os 3 (RT.int .i64)).val M a1 (.slice a4 a5 a6) s40 a7) (J := fun s61 a a1 => ∃ (σ : Nat → Value), a = fr 42 (ovl σ [(0, (.slice pa0 pn0 pc0)), (1, (.slice pa1 pn1 pc1)), (5, (.slice a4 a5 a6)), (6, (.int .i64 k42)), (7, (.int .i64 s61))]) ∧ Chg [] w a1 ∧ Own (Nw w []) M a1 (a7 ++ []) ∧ (RT.rs (RT.int .i64)).val M a1 (.slice pa0 pn0 pc0) p ([]) ∧ (RT.rs (RT.int .i64)).val M a1 (.slice pa1 pn1 pc1) q ([]) ∧ (RT.os 3 (RT.int .i64)).val M a1 (.slice a4 a5 a6) s40 a7) (K := (k_spec_l6Meet M w)) ?_ FU 0 o65 _ _ ?_ d6 ?_
  ·rintro s61 o65 a a1 ⟨σ, rfl, hC, hO, h0, h1, a3⟩ hs
   refine c_seq ?_
   refine c_seq ?_
   refine x_start [] Mx rfl ?_
   have b2 := Chg.drew a1
   generalize World.drew a1 = d7 at b2 ⊢
   have h0 := h0.ext b2
   have h1 := h1.ext b2
   have a3 := a3.ext b2
   have hC := hC.ext b2
   have hO := hO.ext b2
   have hS := Chg.refl [] d7
   refine x_p 0 (.slice pa0 pn0 pc0) rfl (by kernel_rfl)  (fun _ => y_move rfl) (fun _ => hS) ?_
   refine x_p 1 (.int .i64 s61) rfl (by kernel_rfl)  (fun _ => y_move rfl) (fun _ => hS) ?_
   obtain ⟨x68, d8, hs⟩ := bind_some hs
   obtain ⟨d9, e0, e1, e2⟩ := rs_idx Sl25 Sz3 h0 d8
   refine x_p 2 (.pointer (some ⟨d9, e0, none⟩)) rfl (by kernel_rfl)  (fun _ => e1 _ _ _ _ _ _ _ _ _ rfl rfl) (fun _ => hS) ?_
   refine x_l 3 (.int .i64 x68) rfl (by kernel_rfl)  (fun w' hw' => y_load rfl ((at_load_int Ag3 Sz3 e2) w' hw')) hS ?_
   refine x_p 4 (.slice pa0 pn0 pc0) rfl (by kernel_rfl)  (fun _ => y_move rfl) (fun _ => hS) ?_
   refine x_p 5 (.int .i64 k42) rfl (by kernel_rfl)  (fun _ => y_move rfl) (fun _ => hS) ?_
   obtain ⟨x70, e3, hs⟩ := bind_some hs
   obtain ⟨e4, e5, e6, e7⟩ := rs_idx Sl25 Sz3 h0 e3
   refine x_p 6 (.pointer (some ⟨e4, e5, none⟩)) rfl (by kernel_rfl)  (fun _ => e6 _ _ _ _ _ _ _ _ _ rfl rfl) (fun _ => hS) ?_
   refine x_l 7 (.int .i64 x70) rfl (by kernel_rfl)  (fun w' hw' => y_load rfl ((at_load_int Ag3 Sz3 e7) w' hw')) hS ?_
   refine x_p 8 (.bool (x68 != x70)) rfl (by kernel_rfl)  (fun _ => y_neq rfl rfl) (fun _ => hS) ?_
   refine x_p 9 (.bool (x68 != x70)) rfl (by kernel_rfl)  (fun _ => y_move rfl) (fun _ => hS) ?_
   rcases bif_some hs with ⟨a0, hs⟩ | ⟨a0, hs⟩
   ·skip
    refine x_pn 10 rfl (by kernel_rfl) (tg := 24) (by kernel_rfl) (congrArg Value.bool a0) (fun _ => hS) ?_
    refine x_pn 11 rfl (by kernel_rfl) (tg := 24) (by kernel_rfl) (congrArg Value.bool a0) (fun _ => hS) ?_
    refine x_pn 12 rfl (by kernel_rfl) (tg := 24) (by kernel_rfl) (congrArg Value.bool a0) (fun _ => hS) ?_
    refine x_pn 13 rfl (by kernel_rfl) (tg := 24) (by kernel_rfl) (congrArg Value.bool a0) (fun _ => hS) ?_
    refine x_pn 14 rfl (by kernel_rfl) (tg := 24) (by kernel_rfl) (congrArg Value.bool a0) (fun _ => hS) ?_
    refine x_pn 15 rfl (by kernel_rfl) (tg := 24) (by kernel_rfl) (congrArg Value.bool a0) (fun _ => hS) ?_
    refine x_pn 16 rfl (by kernel_rfl) (tg := 24) (by kernel_rfl) (congrArg Value.bool a0) (fun _ => hS) ?_
    refine x_pn 17 rfl (by kernel_rfl) (tg := 24) (by kernel_rfl) (congrArg Value.bool a0) (fun _ => hS) ?_
    refine x_pn 18 rfl (by kernel_rfl) (tg := 24) (by kernel_rfl) (congrArg Value.bool a0) (fun _ => hS) ?_
    refine x_p 19 (.bool true) rfl (by kernel_rfl)  (fun _ => y_pick_t (congrArg Value.bool a0) rfl) (fun _ => hS) ?_
    refine x_end (by kernel_rfl) ?_
    clear hS
    refine c_condT (by rfl) ?_
    refine wp_skip ?_
    refine wp_block ?_
    refine c_region ?_
    refine pl_val (.int .i64 s61) (y_move rfl) ?_
    refine pl_val (.int .i64 (w64 (s61 + 1))) (y_add rfl rfl) ?_
    refine pl_val (.int .i64 (w64 (s61 + 1))) (y_assign rfl) ?_
    refine c_nil ?_
    cases hs
    exact ⟨_, fr_ovl 42 ⟨rfl, rfl, rfl, rfl, rfl, trivial⟩, hC, hO, h0, h1, a3⟩
   refine x_py 10 (.slice pa1 pn1 pc1) rfl (by kernel_rfl) (tg := 24) (by kernel_rfl) (congrArg Value.bool a0) (fun _ => y_move rfl) (fun _ => hS) ?_
   refine x_py 11 (.int .i64 s61) rfl (by kernel_rfl) (tg := 24) (by kernel_rfl) (congrArg Value.bool a0) (fun _ => y_move rfl) (fun _ => hS) ?_
   obtain ⟨x73, e8, hs⟩ := bind_some hs
   obtain ⟨e9, f0, f1, f2⟩ := rs_idx Sl25 Sz3 h1 e8
   refine x_py 12 (.pointer (some ⟨e9, f0, none⟩)) rfl (by kernel_rfl) (tg := 24) (by kernel_rfl) (congrArg Value.bool a0) (fun _ => f1 _ _ _ _ _ _ _ _ _ rfl rfl) (fun _ => hS) ?_
   refine x_ly 13 (.int .i64 x73) rfl (by kernel_rfl) (tg := 24) (by kernel_rfl) (congrArg Value.bool a0) (fun w' hw' => y_load rfl ((at_load_int Ag3 Sz3 f2) w' hw')) hS ?_
   refine x_py 14 (.slice pa1 pn1 pc1) rfl (by kernel_rfl) (tg := 24) (by kernel_rfl) (congrArg Value.bool a0) (fun _ => y_move rfl) (fun _ => hS) ?_
   refine x_py 15 (.int .i64 k42) rfl (by kernel_rfl) (tg := 24) (by kernel_rfl) (congrArg Value.bool a0) (fun _ => y_move rfl) (fun _ => hS) ?_
   obtain ⟨x75, f3, hs⟩ := bind_some hs
   obtain ⟨f4, f5, f6, f7⟩ := rs_idx Sl25 Sz3 h1 f3
   refine x_py 16 (.pointer (some ⟨f4, f5, none⟩)) rfl (by kernel_rfl) (tg := 24) (by kernel_rfl) (congrArg Value.bool a0) (fun _ => f6 _ _ _ _ _ _ _ _ _ rfl rfl) (fun _ => hS) ?_
   refine x_ly 17 (.int .i64 x75) rfl (by kernel_rfl) (tg := 24) (by kernel_rfl) (congrArg Value.bool a0) (fun w' hw' => y_load rfl ((at_load_int Ag3 Sz3 f7) w' hw')) hS ?_
   refine x_py 18 (.bool (x73 != x75)) rfl (by kernel_rfl) (tg := 24) (by kernel_rfl) (congrArg Value.bool a0) (fun _ => y_neq rfl rfl) (fun _ => hS) ?_
   refine x_p 19 (.bool (x73 != x75)) rfl (by kernel_rfl)  (fun _ => y_pick_f (congrArg Value.bool a0) rfl) (fun _ => hS) ?_
   refine x_end (by kernel_rfl) ?_
   clear hS
   rcases bif_some hs with ⟨b8, hs⟩ | ⟨b8, hs⟩
   ·refine c_condT (congrArg Value.bool b8) ?_
    refine wp_skip ?_
    refine wp_block ?_
    refine c_region ?_
    refine pl_val (.int .i64 s61) (y_move rfl) ?_
    refine pl_val (.int .i64 (w64 (s61 + 1))) (y_add rfl rfl) ?_
    refine pl_val (.int .i64 (w64 (s61 + 1))) (y_assign rfl) ?_
    refine c_nil ?_
    cases hs
    exact ⟨_, fr_ovl 42 ⟨rfl, rfl, rfl, rfl, rfl, trivial⟩, hC, hO, h0, h1, a3⟩
   refine c_condF (congrArg Value.bool b8) ?_
   refine wp_exit ?_
   cases hs
   exact ⟨rfl, _, fr_ovl 42 ⟨rfl, rfl, rfl, rfl, rfl, trivial⟩, hC, hO, h0, h1, a3⟩
  ·skip
   exact ⟨_, fr_ovl 42 ⟨rfl, rfl, rfl, rfl, rfl, trivial⟩, hC, hO, h0, h1, a3⟩
  cases o65 with
  | nx _ => exact True.intro
  | rt r_ =>
   have hs := after_rt hs
   intro b9 c7 hK
   cases hs
   exact hK
  | br s61 =>
   have hs := after_br hs
   rintro b9 a1 ⟨σ, rfl, hC, hO, h0, h1, a3⟩
   refine c_region ?_
   refine pl_val (.slice a4 a5 a6) (y_move rfl) ?_
   refine pl_val (.int .i64 s61) (y_move rfl) ?_
   obtain ⟨d1, c0, f8, d2, b3, d3⟩ := new_block a1 [(.int .i64 s61)] 3
   refine pl_val (w' := d1) (.slice (some ⟨c0, 0, none⟩) 1 1) (y_bslice rfl (by rw [f8, d2]; kernel_rfl)) ?_
   have h0 := h0.ext b3
   have h1 := h1.ext b3
   have a3 := a3.ext b3
   have hC := hC.ext b3
   have hO := hO.new1 b3 d2 d3.lt
   have c1 := os_of_box (r := (RT.int .i64)) (M := M) (css := [[(.int .i64 s61)]]) (fps := [([] : List Nat)]) (xs := ([s61] : List Int)) d3 ⟨⟨rfl, rfl⟩, trivial⟩ (Nat.le_of_ble_eq_true rfl) (List.nodup_cons.2 ⟨(fun h => nomatch h), List.nodup_nil⟩)
   have c1 : (RT.os 3 (RT.int .i64)).val M d1 (.slice (some ⟨c0, 0, none⟩) 1 1) [s61] [c0] := c1
   obtain ⟨y81, f9, hs⟩ := bind_some hs
   have hO := hO.fr1
   obtain ⟨c2, c3, c4, g0, g1, g2, b6, g3, c5⟩ := app_os Rw25 f9 a3 c1 hO.inM (fun g hg hq => hO.apart g hq (mem_l hg))
   have c6 := os_block a3
   refine pl_val (w' := g0) (.slice c2 c3 c4) (y_append rfl rfl (g2 _)) ?_
   have hO := hO.fr1
   have hO := hO.fr1
   have h0 := h0.mt b6 hO c6
   have h1 := h1.mt b6 hO c6
   have hC := hC.st b6 hO c6
   have hO := hO.eat b6 g3 (os_nodup c5) c5.fpl
   refine pl_val (.slice c2 c3 c4) (y_assign rfl) ?_
   refine c_nil ?_
   refine c_region ?_
   refine pl_val (.int .i64 k42) (y_move rfl) ?_
   refine pl_val (.int .i64 (w64 (k42 + 1))) (y_add rfl rfl) ?_
   refine pl_val (.int .i64 (w64 (k42 + 1))) (y_assign rfl) ?_
   refine c_nil ?_
   cases hs
   exact ⟨_, c2, c3, c4, g1, fr_ovl 42 ⟨rfl, rfl, rfl, congrArg (Value.int .i64) hw, trivial⟩, hC, hO, h0, h1, c5⟩
 ·skip
  exact ⟨_, (some ⟨a8, 0, none⟩), 0, 0, ([a8]), fr_ovl 42 ⟨rfl, rfl, rfl, rfl, trivial⟩, hC, hO, h0, h1, b7⟩
 cases o44 with
 | nx _ => exact True.intro
 | rt r_ =>
  have hs := after_rt hs
  intro b9 c7 hK
  cases hs
  exact hK
 | br s40 =>
  have hs := after_br hs
  rintro b9 a2 ⟨σ, a9, b0, b1, b5, rfl, hC, hO, h0, h1, g4⟩
  refine c_sr ?_
  refine pl_val (.slice a9 b0 b1) (y_move rfl) ?_
  refine pl_val (.slice a9 b0 b1) (y_assign rfl) ?_
  refine c_nil ?_
  refine wp_ret ?_
  cases hs
  exact ⟨_, a9, b0, b1, b5, fr_ovl 42 ⟨rfl, trivial⟩, hC, g4, hO.top⟩

theorem Bd72 : Bodied Try.prog 72 := bodied Try.func72 (by kernel_rfl) rfl

theorem Bd73 : Bodied Try.prog 73 := bodied Try.func73 (by kernel_rfl) rfl

theorem Bd74 : Bodied Try.prog 74 := bodied Try.func74 (by kernel_rfl) rfl

theorem Bd75 : Bodied Try.prog 75 := bodied Try.func75 (by kernel_rfl) rfl

theorem Bd76 : Bodied Try.prog 76 := bodied Try.func76 (by kernel_rfl) rfl

def k_spec_DrawIsFiner (M : Nat → Prop) (w0 : World) (r : Int × (List Int) × (List Int)) (a : Act) (w : World) : Prop :=
  ∃ (σ : Nat → Value) (ra0 : Option Addr) (rn0 rc0 : Nat) (rf0 : List Nat) (ra1 : Option Addr) (rn1 rc1 : Nat) (rf1 : List Nat), a = fr 36 (ovl σ [(2, (.int .i64 r.1)), (3, (.slice ra0 rn0 rc0)), (4, (.slice ra1 rn1 rc1))]) ∧ Chg [] w0 w ∧ (RT.os 3 (RT.int .i64)).val M w (.slice ra0 rn0 rc0) r.2.1 rf0 ∧ (RT.os 3 (RT.int .i64)).val M w (.slice ra1 rn1 rc1) r.2.2 rf1 ∧ Own (Nw w0 []) (fun _ => True) w (rf0 ++ (rf1 ++ ([])))
def s_spec_DrawIsFiner (code : List Int) : Option (Int × (List Int) × (List Int)) :=
  (s_spec_l1Cur__size6 (code, 0, 0)).bind fun r4 =>
  (s_spec_l1Cur__partition6 r4.1 (code, r4.2.1, r4.2.2)).bind fun r6 =>
  (s_spec_l1Cur__partition6 r4.1 (code, r6.2.1, r6.2.2)).bind fun r9 =>
  ((s_spec_l6Two r4.1 r6.1 r9.1).bind fun r25 =>
  (bif r25 then (s_spec_l1Cur__one 2 (code, r9.2.1, r9.2.2)).bind fun r28 =>
  some (r28.1, r28.2.1, r28.2.2) else some (false, r9.2.1, r9.2.2))).bind fun s21 =>
  (bif s21.1 then (s_spec_l6Meet r6.1 r9.1).bind fun r32 =>
  some (r4.1, r32, r9.1) else some (r4.1, r6.1, r9.1))
set_option maxHeartbeats 4000000 in
theorem c_spec_DrawIsFiner {M : Nat → Prop} {w : World} {pa0 : Option Addr} {pn0 pc0 : Nat} (code : List Int) (h0 : (RT.rs (RT.int .u8)).val M w (.slice pa0 pn0 pc0) code ([])) (hM : ∀ g, w.heap.size ≤ g → M g) {r : Int × (List Int) × (List Int)} (hs : s_spec_DrawIsFiner code = some r) :
    Gives Try.prog 47 [(.slice pa0 pn0 pc0)] w (fun v w' => ∃ (ra0 : Option Addr) (rn0 rc0 : Nat) (rf0 : List Nat) (ra1 : Option Addr) (rn1 rc1 : Nat) (rf1 : List Nat), v = (.tuple #[(.int .i64 r.1), (.slice ra0 rn0 rc0), (.slice ra1 rn1 rc1)]) ∧ Chg [] w w' ∧ (RT.os 3 (RT.int .i64)).val M w' (.slice ra0 rn0 rc0) r.2.1 rf0 ∧ (RT.os 3 (RT.int .i64)).val M w' (.slice ra1 rn1 rc1) r.2.2 rf1 ∧ Own (Nw w []) (fun _ => True) w' (rf0 ++ (rf1 ++ ([])))) := by
 refine calls_fr Try.func47 rfl Try.ntmps47 (Nat.le_of_ble_eq_true rfl) ?_
 have hO := Own.start (N := Nw w []) hM Nw.fut
 have hC := Chg.refl [] w
 unfold s_spec_DrawIsFiner at hs
 refine wp_mono (Q := KPost (k_spec_DrawIsFiner M w r)) ?_ (fun e a f8 h => ?_)
 rotate_left
 ·cases e
  case ret =>
   obtain ⟨σ, ra0, rn0, rc0, rf0, ra1, rn1, rc1, rf1, rfl, hrest⟩ := h
   exact ret3x Try.results47 (res_tmp rfl) (res_tmp rfl) (res_tmp rfl) ⟨ra0, rn0, rc0, rf0, ra1, rn1, rc1, rf1, rfl, hrest⟩
  all_goals exact (h : False).elim
 refine c_sr ?_
 refine pl_val (.int .i64 0) (y_assign rfl) ?_
 refine pl_val (.slice none 0 0) (y_assign rfl) ?_
 refine pl_val (.slice none 0 0) (y_assign rfl) ?_
 refine c_nil ?_
 refine c_sr ?_
 refine pl_val (.slice pa0 pn0 pc0) (y_move rfl) ?_
 refine pl_val (.agg #[(.slice pa0 pn0 pc0), (.int .i64 0), (.int .u64 0)]) (y_build rfl (by kernel_rfl)) ?_
 obtain ⟨d6, a0, d7, c6, b8, c7⟩ := new_block w [(.slice pa0 pn0 pc0), (.int .i64 0), (.int .u64 0)] 53
 refine pl_val (w' := d6) (.pointer (some ⟨a0, 0, none⟩)) (y_box rfl (by rw [d7, c6]; kernel_rfl)) ?_
 have h0 := h0.ext b8
 have hC := hC.ext b8
 have hO := hO.new1 b8 c6 c7.lt
 refine pl_val (.pointer (some ⟨a0, 0, none⟩)) (y_assign rfl) ?_
 refine c_nil ?_
 refine c_sr ?_
 refine pl_val (.pointer (some ⟨a0, 0, none⟩)) (y_move rfl) ?_
 have d8 := hO
 have c8 := Own.lend (F := (([a0]) ++ ([]))) (R := []) (Own.perm (d8) (by simp))
 obtain ⟨r4, d9, hs⟩ := bind_some hs
 refine pl_call Bd72 rfl (c_spec_l1Cur__size6 (M := M) (code, 0, 0) (show BoxV _ a0 53 [(.slice pa0 pn0 pc0), (.int .i64 0), (.int .u64 0)] from c7) h0 c8 c8.fut d9) ?_
 rintro _ e0 ⟨rfl, b9, c0, e1⟩
 have hO := hO.perm (R := (([a0]) ++ ([])) ++ ([])) (by simp)
 have h0 := h0.mt b9 hO same_
 have hC := hC.st b9 hO same_
 have hO := Own.join hO b9 e1
 have hO := hO.perm (R := [a0] ++ ([])) (by simp)
 have c0 : BoxV e0 a0 53 [(.slice pa0 pn0 pc0), (.int .i64 r4.2.1), (.int .u64 r4.2.2)] := c0
 refine pl_val (.int .i64 r4.1) (y_assign rfl) ?_
 refine c_nil ?_
 refine c_sr ?_
 refine pl_val (.pointer (some ⟨a0, 0, none⟩)) (y_move rfl) ?_
 refine pl_val (.int .i64 r4.1) (y_move rfl) ?_
 have e2 := hO
 have c9 := Own.lend (F := (([a0]) ++ ([]))) (R := []) (Own.perm (e2) (by simp))
 obtain ⟨r6, e3, hs⟩ := bind_some hs
 refine pl_call Bd73 rfl (c_spec_l1Cur__partition6 (M := M) r4.1 (code, r4.2.1, r4.2.2) (show BoxV _ a0 53 [(.slice pa0 pn0 pc0), (.int .i64 r4.2.1), (.int .u64 r4.2.2)] from c0) h0 c9 c9.fut e3) ?_
 rintro _ e4 ⟨a9, b0, b1, a2, rfl, c1, a1, c2, e5⟩
 have hO := hO.perm (R := (([a0]) ++ ([])) ++ ([])) (by simp)
 have h0 := h0.mt c1 hO same_
 have hC := hC.st c1 hO same_
 have hO := Own.join hO c1 e5
 have hO := hO.perm (R := a2 ++ ([a0] ++ ([]))) (by simp)
 have c2 : BoxV e4 a0 53 [(.slice pa0 pn0 pc0), (.int .i64 r6.2.1), (.int .u64 r6.2.2)] := c2
 refine pl_val (.pointer (some ⟨a0, 0, none⟩)) (y_move rfl) ?_
 refine pl_val (.int .i64 r4.1) (y_move rfl) ?_
 have hO := hO.fr1
 have e6 := hO
 have d0 := Own.lend (F := (([a0]) ++ ([]))) (R := a2 ++ ([])) (Own.perm (e6) (by simp))
 obtain ⟨r9, e7, hs⟩ := bind_some hs
 refine pl_call Bd73 rfl (c_spec_l1Cur__partition6 (M := M) r4.1 (code, r6.2.1, r6.2.2) (show BoxV _ a0 53 [(.slice pa0 pn0 pc0), (.int .i64 r6.2.1), (.int .u64 r6.2.2)] from c2) h0 d0 d0.fut e7) ?_
 rintro _ e8 ⟨a4, a5, a6, a7, rfl, b7, a3, a8, e9⟩
 have hO := hO.perm (R := (([a0]) ++ ([])) ++ (a2 ++ ([]))) (by simp)
 have h0 := h0.mt b7 hO same_
 have a1 := a1.ma b7 hO same_ (fun _ e => (mem_l (e)))
 have hC := hC.st b7 hO same_
 have hO := Own.join hO b7 e9
 have hO := hO.perm (R := a7 ++ ([a0] ++ (a2 ++ ([])))) (by simp)
 have a8 : BoxV e8 a0 53 [(.slice pa0 pn0 pc0), (.int .i64 r9.2.1), (.int .u64 r9.2.2)] := a8
 refine pl_val (.slice a9 b0 b1) (y_assign rfl) ?_
 refine pl_val (.slice a4 a5 a6) (y_assign rfl) ?_
 refine c_nil ?_
 refine c_seq ?_
 refine c_seq ?_
 obtain ⟨s21, f0, hs⟩ := bind_some hs
 refine c_mid (I := fun a b3 => ∃ (σ : Nat → Value), a = fr 36 (ovl σ [(6, (.int .i64 r4.1)), (7, (.slice a9 b0 b1)), (8, (.slice a4 a5 a6)), (27, (.bool s21.1))]) ∧ Chg [] w b3 ∧ Own (Nw w []) M b3 (a7 ++ (([a0]) ++ (a2 ++ []))) ∧ BoxV b3 a0 53 [(.slice pa0 pn0 pc0), (.int .i64 s21.2.1), (.int .u64 s21.2.2)] ∧ (RT.os 3 (RT.int .i64)).val M b3 (.slice a9 b0 b1) r6.1 a2 ∧ (RT.os 3 (RT.int .i64)).val M b3 (.slice a4 a5 a6) r9.1 a7) ?_ ?_
 ·replace hs := f0
  refine c_region ?_
  refine pl_val (.int .i64 r4.1) (y_move rfl) ?_
  refine pl_val (.slice a9 b0 b1) (y_move rfl) ?_
  refine pl_val (.slice a4 a5 a6) (y_move rfl) ?_
  have hO := hO.fr2
  obtain ⟨r25, f1, hs⟩ := bind_some hs
  refine pl_call Bd74 rfl (c_spec_l6Two (M := (Less (Less M a2) a7)) r4.1 r6.1 r9.1 ((((Frz.os Frz.int)).val a1 Less.sub Less.not).sub Less.sub) (((Frz.os Frz.int)).val (a3.sub Less.sub) Less.sub Less.not) (hO.less).less.fut f1) ?_
  rintro _ f9 ⟨rfl, b4⟩
  have h0 := h0.ext b4
  have a8 := a8.cn b4
  have a1 := a1.ext b4
  have a3 := a3.ext b4
  have hC := hC.ext b4
  have hO := hO.ext b4
  refine pl_val (.bool r25) (y_move rfl) ?_
  rcases bif_some hs with ⟨b2, hs⟩ | ⟨b2, hs⟩
  ·skip
   refine pl_yes (.pointer (some ⟨a0, 0, none⟩)) (tg := 24) (by kernel_rfl) (congrArg Value.bool b2) (y_move rfl) ?_
   have hO := hO.fr2
   have f2 := hO
   have d1 := Own.lend (F := (([a0]) ++ ([]))) (R := a2 ++ (a7 ++ ([]))) (Own.perm (f2) (by simp))
   obtain ⟨r28, f3, hs⟩ := bind_some hs
   refine pl_cally (tg := 24) (by kernel_rfl) (congrArg Value.bool b2) Bd75 rfl (c_spec_l1Cur__one (M := M) 2 (code, r9.2.1, r9.2.2) (show BoxV _ a0 53 [(.slice pa0 pn0 pc0), (.int .i64 r9.2.1), (.int .u64 r9.2.2)] from a8) h0 d1 d1.fut f3) ?_
   rintro _ f4 ⟨rfl, b5, c3, f5⟩
   have hO := hO.perm (R := (([a0]) ++ ([])) ++ (a2 ++ (a7 ++ ([])))) (by simp)
   have h0 := h0.mt b5 hO same_
   have a1 := a1.ma b5 hO same_ (fun _ e => (mem_l (e)))
   have a3 := a3.ma b5 hO same_ (fun _ e => (mem_r (mem_l (e))))
   have hC := hC.st b5 hO same_
   have hO := Own.join hO b5 f5
   have hO := hO.perm (R := [a0] ++ (a2 ++ (a7 ++ ([])))) (by simp)
   have c3 : BoxV f4 a0 53 [(.slice pa0 pn0 pc0), (.int .i64 r28.2.1), (.int .u64 r28.2.2)] := c3
   refine pl_val (.bool r28.1) (y_pick_t (congrArg Value.bool b2) rfl) ?_
   refine c_nil ?_
   cases hs
   have hO := hO.fr1
   have hO := hO.fr1
   have hO := hO.fr2
   exact ⟨_, fr_ovl 36 ⟨rfl, rfl, rfl, rfl, trivial⟩, hC, hO, c3, a1, a3⟩
  refine pl_not (tg := 24) (by kernel_rfl) (congrArg Value.bool b2) ?_
  refine pl_not (tg := 24) (by kernel_rfl) (congrArg Value.bool b2) ?_
  refine pl_val (.bool false) (y_pick_f (congrArg Value.bool b2) rfl) ?_
  refine c_nil ?_
  cases hs
  have hO := hO.fr2
  have hO := hO.fr2
  exact ⟨_, fr_ovl 36 ⟨rfl, rfl, rfl, rfl, trivial⟩, hC, hO, a8, a1, a3⟩
 rintro g0 b3 ⟨σ, rfl, hC, hO, a8, a1, a3⟩
 rcases bif_some hs with ⟨c4, hs⟩ | ⟨c4, hs⟩
 ·refine c_condT (congrArg Value.bool c4) ?_
  refine c_sr ?_
  refine pl_val (.int .i64 r4.1) (y_move rfl) ?_
  refine pl_val (.slice a9 b0 b1) (y_move rfl) ?_
  refine pl_val (.slice a4 a5 a6) (y_move rfl) ?_
  have hO := hO.fr2
  obtain ⟨r32, f6, hs⟩ := bind_some hs
  refine pl_call Bd76 rfl (c_spec_l6Meet (M := (Less (Less M a2) a7)) r6.1 r9.1 ((((Frz.os Frz.int)).val a1 Less.sub Less.not).sub Less.sub) (((Frz.os Frz.int)).val (a3.sub Less.sub) Less.sub Less.not) (hO.less).less.fut f6) ?_
  rintro _ g1 ⟨d2, d3, d4, d5, rfl, b6, c5, f7⟩
  have a8 := a8.cn b6
  have a1 := a1.ext b6
  have a3 := a3.ext b6
  have hC := hC.ext b6
  have hO := Own.join0 hO b6 f7
  have hO := hO.perm (R := d5 ++ (a2 ++ (a7 ++ (([a0]) ++ ([]))))) (by simp)
  have c5 := c5.free (M' := M) (Free.os Free.int)
  refine pl_val (.slice a4 a5 a6) (y_move rfl) ?_
  refine pl_val (.int .i64 r4.1) (y_assign rfl) ?_
  refine pl_val (.slice d2 d3 d4) (y_assign rfl) ?_
  refine pl_val (.slice a4 a5 a6) (y_assign rfl) ?_
  refine c_nil ?_
  refine wp_ret ?_
  cases hs
  have hO := hO.fr1
  have hO := hO.drop
  have hO := hO.fr2
  have hO := hO.drop
  have hO := hO.fr1
  have hO := hO.fr1
  exact ⟨_, d2, d3, d4, d5, a4, a5, a6, a7, fr_ovl 36 ⟨rfl, rfl, rfl, trivial⟩, hC, c5, a3, hO.top⟩
 refine c_condF (congrArg Value.bool c4) ?_
 refine wp_skip ?_
 refine c_sr ?_
 refine pl_val (.int .i64 r4.1) (y_move rfl) ?_
 refine pl_val (.slice a9 b0 b1) (y_move rfl) ?_
 refine pl_val (.slice a4 a5 a6) (y_move rfl) ?_
 refine pl_val (.int .i64 r4.1) (y_assign rfl) ?_
 refine pl_val (.slice a9 b0 b1) (y_assign rfl) ?_
 refine pl_val (.slice a4 a5 a6) (y_assign rfl) ?_
 refine c_nil ?_
 refine wp_ret ?_
 cases hs
 have hO := hO.fr1
 have hO := hO.drop
 have hO := hO.fr1
 exact ⟨_, a9, b0, b1, a2, a4, a5, a6, a7, fr_ovl 36 ⟨rfl, rfl, rfl, trivial⟩, hC, a1, a3, hO.top⟩

theorem Bd47 : Bodied Try.prog 47 := bodied Try.func47 (by kernel_rfl) rfl

def k_spec_DrawFirstUnpermuted (M : Nat → Prop) (w0 : World) (r : Int × (List Int) × (List Int)) (a : Act) (w : World) : Prop :=
  ∃ (σ : Nat → Value) (ra0 : Option Addr) (rn0 rc0 : Nat) (rf0 : List Nat) (ra1 : Option Addr) (rn1 rc1 : Nat) (rf1 : List Nat), a = fr 10 (ovl σ [(2, (.int .i64 r.1)), (3, (.slice ra0 rn0 rc0)), (4, (.slice ra1 rn1 rc1))]) ∧ Chg [] w0 w ∧ (RT.os 3 (RT.int .i64)).val M w (.slice ra0 rn0 rc0) r.2.1 rf0 ∧ (RT.os 3 (RT.int .i64)).val M w (.slice ra1 rn1 rc1) r.2.2 rf1 ∧ Own (Nw w0 []) (fun _ => True) w (rf0 ++ (rf1 ++ ([])))
def s_spec_DrawFirstUnpermuted (code : List Int) : Option (Int × (List Int) × (List Int)) :=
  (s_spec_DrawIsFiner code).bind fun r3 =>
  some (r3.1, r3.2.1, r3.2.2)
set_option maxHeartbeats 4000000 in
theorem c_spec_DrawFirstUnpermuted {M : Nat → Prop} {w : World} {pa0 : Option Addr} {pn0 pc0 : Nat} (code : List Int) (h0 : (RT.rs (RT.int .u8)).val M w (.slice pa0 pn0 pc0) code ([])) (hM : ∀ g, w.heap.size ≤ g → M g) {r : Int × (List Int) × (List Int)} (hs : s_spec_DrawFirstUnpermuted code = some r) :
    Gives Try.prog 19 [(.slice pa0 pn0 pc0)] w (fun v w' => ∃ (ra0 : Option Addr) (rn0 rc0 : Nat) (rf0 : List Nat) (ra1 : Option Addr) (rn1 rc1 : Nat) (rf1 : List Nat), v = (.tuple #[(.int .i64 r.1), (.slice ra0 rn0 rc0), (.slice ra1 rn1 rc1)]) ∧ Chg [] w w' ∧ (RT.os 3 (RT.int .i64)).val M w' (.slice ra0 rn0 rc0) r.2.1 rf0 ∧ (RT.os 3 (RT.int .i64)).val M w' (.slice ra1 rn1 rc1) r.2.2 rf1 ∧ Own (Nw w []) (fun _ => True) w' (rf0 ++ (rf1 ++ ([])))) := by
 refine calls_fr Try.func19 rfl Try.ntmps19 (Nat.le_of_ble_eq_true rfl) ?_
 have hO := Own.start (N := Nw w []) hM Nw.fut
 have hC := Chg.refl [] w
 unfold s_spec_DrawFirstUnpermuted at hs
 refine wp_mono (Q := KPost (k_spec_DrawFirstUnpermuted M w r)) ?_ (fun e a b3 h => ?_)
 rotate_left
 ·cases e
  case ret =>
   obtain ⟨σ, ra0, rn0, rc0, rf0, ra1, rn1, rc1, rf1, rfl, hrest⟩ := h
   exact ret3x Try.results19 (res_tmp rfl) (res_tmp rfl) (res_tmp rfl) ⟨ra0, rn0, rc0, rf0, ra1, rn1, rc1, rf1, rfl, hrest⟩
  all_goals exact (h : False).elim
 refine c_sr ?_
 refine pl_val (.int .i64 0) (y_assign rfl) ?_
 refine pl_val (.slice none 0 0) (y_assign rfl) ?_
 refine pl_val (.slice none 0 0) (y_assign rfl) ?_
 refine c_nil ?_
 refine c_sr ?_
 refine pl_val (.slice pa0 pn0 pc0) (y_move rfl) ?_
 obtain ⟨r3, a9, hs⟩ := bind_some hs
 refine pl_call Bd47 rfl (c_spec_DrawIsFiner (M := M) code h0 hO.fut a9) ?_
 rintro _ b4 ⟨a0, a1, a2, a7, a3, a4, a5, a8, rfl, a6, b0, b1, b2⟩
 have h0 := h0.ext a6
 have hC := hC.ext a6
 have hO := Own.join0 hO a6 b2
 have hO := hO.perm (R := a7 ++ (a8 ++ ([]))) (by simp)
 refine pl_val (.int .i64 r3.1) (y_extract rfl (by kernel_rfl)) ?_
 refine pl_val (.slice a0 a1 a2) (y_extract rfl (by kernel_rfl)) ?_
 refine pl_val (.slice a3 a4 a5) (y_extract rfl (by kernel_rfl)) ?_
 refine pl_val (.int .i64 r3.1) (y_assign rfl) ?_
 refine pl_val (.slice a0 a1 a2) (y_assign rfl) ?_
 refine pl_val (.slice a3 a4 a5) (y_assign rfl) ?_
 refine c_nil ?_
 refine wp_ret ?_
 cases hs
 have hO := hO.fr1
 have hO := hO.fr1
 exact ⟨_, a0, a1, a2, a7, a3, a4, a5, a8, fr_ovl 10 ⟨rfl, rfl, rfl, trivial⟩, hC, b0, b1, hO.top⟩

def k_impl_isSize (M : Nat → Prop) (w0 : World) (r : Bool) (a : Act) (w : World) : Prop :=
  ∃ (σ : Nat → Value) , a = fr 9 (ovl σ [(2, (.bool r))]) ∧ Chg [] w0 w
def s_impl_isSize (n : Int) : Option (Bool) :=
  (bif (decide (1 ≤ n)) then some (decide (n ≤ 8)) else some false)
set_option maxHeartbeats 4000000 in
theorem c_impl_isSize {M : Nat → Prop} {w : World}  (n : Int)  (hM : ∀ g, w.heap.size ≤ g → M g) {r : Bool} (hs : s_impl_isSize n = some r) :
    Gives Try.prog 32 [(.int .i64 n)] w (fun v w' => v = (.bool r) ∧ Chg [] w w') := by
 refine calls_fr Try.func32 rfl Try.ntmps32 (Nat.le_of_ble_eq_true rfl) ?_
 have hO := Own.start (N := Nw w []) hM Nw.fut
 have hC := Chg.refl [] w
 unfold s_impl_isSize at hs
 refine wp_mono (Q := KPost (k_impl_isSize M w r)) ?_ (fun e a a1 h => ?_)
 rotate_left
 ·cases e
  case ret =>
   obtain ⟨σ, rfl, hrest⟩ := h
   exact ret1x Try.results32 (res_tmp rfl) ⟨rfl, hrest⟩
  all_goals exact (h : False).elim
 refine c_sr ?_
 refine pl_val (.bool false) (y_assign rfl) ?_
 refine c_nil ?_
 refine c_sr ?_
 refine pl_val (.int .i64 n) (y_move rfl) ?_
 refine pl_val (.bool (decide (1 ≤ n))) (y_geq rfl rfl) ?_
 refine pl_val (.bool (decide (1 ≤ n))) (y_move rfl) ?_
 rcases bif_some hs with ⟨a0, hs⟩ | ⟨a0, hs⟩
 ·skip
  refine pl_yes (.int .i64 n) (tg := 5) (by kernel_rfl) (congrArg Value.bool a0) (y_move rfl) ?_
  refine pl_yes (.bool (decide (n ≤ 8))) (tg := 5) (by kernel_rfl) (congrArg Value.bool a0) (y_leq rfl rfl) ?_
  refine pl_val (.bool (decide (n ≤ 8))) (y_pick_t (congrArg Value.bool a0) rfl) ?_
  refine pl_val (.bool (decide (n ≤ 8))) (y_assign rfl) ?_
  refine c_nil ?_
  refine wp_ret ?_
  cases hs
  exact ⟨_, fr_ovl 9 ⟨rfl, trivial⟩, hC⟩
 refine pl_not (tg := 5) (by kernel_rfl) (congrArg Value.bool a0) ?_
 refine pl_not (tg := 5) (by kernel_rfl) (congrArg Value.bool a0) ?_
 refine pl_val (.bool false) (y_pick_f (congrArg Value.bool a0) rfl) ?_
 refine pl_val (.bool false) (y_assign rfl) ?_
 refine c_nil ?_
 refine wp_ret ?_
 cases hs
 exact ⟨_, fr_ovl 9 ⟨rfl, trivial⟩, hC⟩

def k_impl_isPartition (M : Nat → Prop) (w0 : World) (r : Bool) (a : Act) (w : World) : Prop :=
  ∃ (σ : Nat → Value) , a = fr 34 (ovl σ [(4, (.bool r))]) ∧ Chg [] w0 w
def s_impl_isPartition (n : Int) (p : List Int) : Option (Bool) :=
  (bif ((p.length : Int) != n) then some false else (forC (S := Unit) (R := Bool) (fun k12 s10 =>
  (idx p k12).bind fun x16 =>
  (bif (decide (x16 < 0)) then some (.rt false) else (bif (decide (k12 < x16)) then some (.rt false) else (idx p x16).bind fun x20 =>
  (bif (x20 != x16) then some (.rt false) else some (.nx ()))))) 0 (p.length : Int) ()).bind fun o14 => after o14 (fun r_ => some r_) (fun s10 =>
  some true))
set_option maxHeartbeats 4000000 in
theorem c_impl_isPartition {M : Nat → Prop} {w : World} {pa0 : Option Addr} {pn0 pc0 : Nat} (n : Int) (p : List Int) (h0 : (RT.rs (RT.int .i64)).val M w (.slice pa0 pn0 pc0) p ([])) (hM : ∀ g, w.heap.size ≤ g → M g) {r : Bool} (hs : s_impl_isPartition n p = some r) :
    Gives Try.prog 77 [(.int .i64 n), (.slice pa0 pn0 pc0)] w (fun v w' => v = (.bool r) ∧ Chg [] w w') := by
 refine calls_fr Try.func77 rfl Try.ntmps77 (Nat.le_of_ble_eq_true rfl) ?_
 have hO := Own.start (N := Nw w []) hM Nw.fut
 have hC := Chg.refl [] w
 unfold s_impl_isPartition at hs
 refine wp_mono (Q := KPost (k_impl_isPartition M w r)) ?_ (fun e a a5 h => ?_)
 rotate_left
 ·cases e
  case ret =>
   obtain ⟨σ, rfl, hrest⟩ := h
   exact ret1x Try.results77 (res_tmp rfl) ⟨rfl, hrest⟩
  all_goals exact (h : False).elim
 refine c_sr ?_
 refine pl_val (.bool false) (y_assign rfl) ?_
 refine c_nil ?_
 refine c_seq ?_
 refine c_sr ?_
 refine pl_val (.slice pa0 pn0 pc0) (y_move rfl) ?_
 refine pl_val (.int .i64 (p.length : Int)) (y_len' Sl25 (rs_len h0) rfl) ?_
 refine pl_val (.int .i64 n) (y_move rfl) ?_
 refine pl_val (.bool ((p.length : Int) != n)) (y_neq rfl rfl) ?_
 refine c_nil ?_
 rcases bif_some hs with ⟨a3, hs⟩ | ⟨a3, hs⟩
 ·refine c_condT (congrArg Value.bool a3) ?_
  refine c_sr ?_
  refine pl_val (.bool false) (y_assign rfl) ?_
  refine c_nil ?_
  refine wp_ret ?_
  cases hs
  exact ⟨_, fr_ovl 34 ⟨rfl, trivial⟩, hC⟩
 refine c_condF (congrArg Value.bool a3) ?_
 refine wp_skip ?_
 refine c_seq ?_
 refine c_sr ?_
 refine pl_val (.slice pa0 pn0 pc0) (y_move rfl) ?_
 refine pl_val (.int .i64 (p.length : Int)) (y_len' Sl25 (rs_len h0) rfl) ?_
 refine pl_val (.int .i64 0) (y_move rfl) ?_
 refine c_nil ?_
 obtain ⟨o14, a6, hs⟩ := bind_some hs
 refine wp_block ?_
 refine wp_forC (id := 0) (p.length : Int) (I := fun k12 s10 a a1 => ∃ (σ : Nat → Value), a = fr 34 (ovl σ [(1, (.slice pa0 pn0 pc0)), (11, (.slice pa0 pn0 pc0)), (12, (.int .i64 (p.length : Int))), (13, (.int .i64 k12))]) ∧ Chg [] w a1 ∧ Own (Nw w []) M a1 ([]) ∧ (RT.rs (RT.int .i64)).val M a1 (.slice pa0 pn0 pc0) p ([])) (J := fun s10 a a1 => ∃ (σ : Nat → Value), a = fr 34 (ovl σ []) ∧ Chg [] w a1 ∧ Own (Nw w []) M a1 ([]) ∧ (RT.rs (RT.int .i64)).val M a1 (.slice pa0 pn0 pc0) p ([])) (K := (k_impl_isPartition M w)) ?_ ?_ 0 () o14 _ _ ?_ a6 ?_
 ·rintro k12 s10 a a1 ⟨σ, rfl, hC, hO, h0⟩ hlt
  refine c_sr ?_
  refine pl_val (.bool (decide (k12 < (p.length : Int)))) (y_lss rfl rfl) ?_
  refine c_nil ?_
  refine c_seq ?_
  refine c_condF (congrArg Value.bool (decide_eq_false hlt)) ?_
  refine wp_exit ?_
  exact ⟨rfl, _, fr_ovl 34 trivial, hC, hO, h0⟩
 ·rintro k12 s10 o14 a a1 ⟨σ, rfl, hC, hO, h0⟩ hlt hw hs
  refine c_sr ?_
  refine pl_val (.bool (decide (k12 < (p.length : Int)))) (y_lss rfl rfl) ?_
  refine c_nil ?_
  refine c_seq ?_
  refine c_condT (congrArg Value.bool (decide_eq_true hlt)) ?_
  refine wp_skip ?_
  refine c_seq ?_
  refine wp_block ?_
  refine c_sr ?_
  refine pl_val (.int .i64 k12) (y_move rfl) ?_
  obtain ⟨x16, a7, hs⟩ := bind_some hs
  obtain ⟨a8, a9, b0, b1⟩ := rs_idx Sl25 Sz3 h0 a7
  refine pl_val (.pointer (some ⟨a8, a9, none⟩)) (b0 _ _ _ _ _ _ _ _ _ rfl rfl) ?_
  refine pl_val (.int .i64 x16) (y_load rfl ((at_load_int Ag3 Sz3 b1) _ (Chg.refl _ _))) ?_
  refine pl_val (.int .i64 k12) (y_assign rfl) ?_
  refine pl_val (.int .i64 x16) (y_assign rfl) ?_
  refine c_nil ?_
  refine c_sr ?_
  refine pl_val (.int .i64 x16) (y_move rfl) ?_
  refine pl_val (.bool (decide (x16 < 0))) (y_lss rfl rfl) ?_
  refine pl_val (.bool (decide (x16 < 0))) (y_move rfl) ?_
  rcases bif_some hs with ⟨a2, hs⟩ | ⟨a2, hs⟩
  ·skip
   refine pl_not (tg := 20) (by kernel_rfl) (congrArg Value.bool a2) ?_
   refine pl_not (tg := 20) (by kernel_rfl) (congrArg Value.bool a2) ?_
   refine pl_not (tg := 20) (by kernel_rfl) (congrArg Value.bool a2) ?_
   refine pl_val (.bool true) (y_pick_t (congrArg Value.bool a2) rfl) ?_
   refine pl_val (.bool true) (y_move rfl) ?_
   refine pl_not (tg := 25) (by kernel_rfl) (by rfl) ?_
   refine pl_not (tg := 25) (by kernel_rfl) (by rfl) ?_
   refine pl_not (tg := 25) (by kernel_rfl) (by rfl) ?_
   refine pl_not (tg := 25) (by kernel_rfl) (by rfl) ?_
   refine pl_not (tg := 25) (by kernel_rfl) (by rfl) ?_
   refine pl_not (tg := 25) (by kernel_rfl) (by rfl) ?_
   refine pl_val (.bool true) (y_pick_t (by rfl) rfl) ?_
   refine c_nil ?_
   refine c_condT (by rfl) ?_
   refine c_sr ?_
   refine pl_val (.bool false) (y_assign rfl) ?_
   refine c_nil ?_
   refine wp_ret ?_
   cases hs
   exact ⟨_, fr_ovl 34 ⟨rfl, trivial⟩, hC⟩
  refine pl_yes (.int .i64 x16) (tg := 20) (by kernel_rfl) (congrArg Value.bool a2) (y_move rfl) ?_
  refine pl_yes (.int .i64 k12) (tg := 20) (by kernel_rfl) (congrArg Value.bool a2) (y_move rfl) ?_
  refine pl_yes (.bool (decide (k12 < x16))) (tg := 20) (by kernel_rfl) (congrArg Value.bool a2) (y_gtr rfl rfl) ?_
  refine pl_val (.bool (decide (k12 < x16))) (y_pick_f (congrArg Value.bool a2) rfl) ?_
  refine pl_val (.bool (decide (k12 < x16))) (y_move rfl) ?_
  rcases bif_some hs with ⟨a0, hs⟩ | ⟨a0, hs⟩
  ·skip
   refine pl_not (tg := 25) (by kernel_rfl) (congrArg Value.bool a0) ?_
   refine pl_not (tg := 25) (by kernel_rfl) (congrArg Value.bool a0) ?_
   refine pl_not (tg := 25) (by kernel_rfl) (congrArg Value.bool a0) ?_
   refine pl_not (tg := 25) (by kernel_rfl) (congrArg Value.bool a0) ?_
   refine pl_not (tg := 25) (by kernel_rfl) (congrArg Value.bool a0) ?_
   refine pl_not (tg := 25) (by kernel_rfl) (congrArg Value.bool a0) ?_
   refine pl_val (.bool true) (y_pick_t (congrArg Value.bool a0) rfl) ?_
   refine c_nil ?_
   refine c_condT (by rfl) ?_
   refine c_sr ?_
   refine pl_val (.bool false) (y_assign rfl) ?_
   refine c_nil ?_
   refine wp_ret ?_
   cases hs
   exact ⟨_, fr_ovl 34 ⟨rfl, trivial⟩, hC⟩
  refine pl_yes (.slice pa0 pn0 pc0) (tg := 25) (by kernel_rfl) (congrArg Value.bool a0) (y_move rfl) ?_
  refine pl_yes (.int .i64 x16) (tg := 25) (by kernel_rfl) (congrArg Value.bool a0) (y_move rfl) ?_
  obtain ⟨x20, b2, hs⟩ := bind_some hs
  obtain ⟨b3, b4, b5, b6⟩ := rs_idx Sl25 Sz3 h0 b2
  refine pl_yes (.pointer (some ⟨b3, b4, none⟩)) (tg := 25) (by kernel_rfl) (congrArg Value.bool a0) (b5 _ _ _ _ _ _ _ _ _ rfl rfl) ?_
  refine pl_yes (.int .i64 x20) (tg := 25) (by kernel_rfl) (congrArg Value.bool a0) (y_load rfl ((at_load_int Ag3 Sz3 b6) _ (Chg.refl _ _))) ?_
  refine pl_yes (.int .i64 x16) (tg := 25) (by kernel_rfl) (congrArg Value.bool a0) (y_move rfl) ?_
  refine pl_yes (.bool (x20 != x16)) (tg := 25) (by kernel_rfl) (congrArg Value.bool a0) (y_neq rfl rfl) ?_
  refine pl_val (.bool (x20 != x16)) (y_pick_f (congrArg Value.bool a0) rfl) ?_
  refine c_nil ?_
  rcases bif_some hs with ⟨a4, hs⟩ | ⟨a4, hs⟩
  ·refine c_condT (congrArg Value.bool a4) ?_
   refine c_sr ?_
   refine pl_val (.bool false) (y_assign rfl) ?_
   refine c_nil ?_
   refine wp_ret ?_
   cases hs
   exact ⟨_, fr_ovl 34 ⟨rfl, trivial⟩, hC⟩
  refine c_condF (congrArg Value.bool a4) ?_
  refine wp_skip ?_
  refine c_region ?_
  refine pl_val (.int .i64 (w64 (k12 + 1))) (y_add rfl rfl) ?_
  refine pl_val (.int .i64 (w64 (k12 + 1))) (y_move rfl) ?_
  refine c_nil ?_
  cases hs
  exact ⟨_, fr_ovl 34 ⟨rfl, rfl, rfl, congrArg (Value.int .i64) hw, trivial⟩, hC, hO, h0⟩
 ·skip
  exact ⟨_, fr_ovl 34 ⟨rfl, rfl, rfl, rfl, trivial⟩, hC, hO, h0⟩
 cases o14 with
 | nx _ => exact True.intro
 | rt r_ =>
  have hs := after_rt hs
  intro b7 a5 hK
  cases hs
  exact hK
 | br s10 =>
  have hs := after_br hs
  rintro b7 a1 ⟨σ, rfl, hC, hO, h0⟩
  refine c_sr ?_
  refine pl_val (.bool true) (y_assign rfl) ?_
  refine c_nil ?_
  refine wp_ret ?_
  cases hs
  exact ⟨_, fr_ovl 34 ⟨rfl, trivial⟩, hC⟩

theorem Bd32 : Bodied Try.prog 32 := bodied Try.func32 (by kernel_rfl) rfl

theorem Bd77 : Bodied Try.prog 77 := bodied Try.func77 (by kernel_rfl) rfl

def k_impl_arePartitions (M : Nat → Prop) (w0 : World) (r : Bool) (a : Act) (w : World) : Prop :=
  ∃ (σ : Nat → Value) , a = fr 19 (ovl σ [(6, (.bool r))]) ∧ Chg [] w0 w
def s_impl_arePartitions (n : Int) (p : List Int) (q : List Int) : Option (Bool) :=
  (s_impl_isSize n).bind fun r4 =>
  (bif r4 then (s_impl_isPartition n p).bind fun r7 =>
  (bif r7 then (s_impl_isPartition n q).bind fun r10 =>
  some r10 else some false) else some false)
set_option maxHeartbeats 4000000 in
theorem c_impl_arePartitions {M : Nat → Prop} {w : World} {pa0 : Option Addr} {pn0 pc0 : Nat} {pa1 : Option Addr} {pn1 pc1 : Nat} (n : Int) (p : List Int) (q : List Int) (h0 : (RT.rs (RT.int .i64)).val M w (.slice pa0 pn0 pc0) p ([])) (h1 : (RT.rs (RT.int .i64)).val M w (.slice pa1 pn1 pc1) q ([])) (hM : ∀ g, w.heap.size ≤ g → M g) {r : Bool} (hs : s_impl_arePartitions n p q = some r) :
    Gives Try.prog 48 [(.int .i64 n), (.slice pa0 pn0 pc0), (.slice pa1 pn1 pc1)] w (fun v w' => v = (.bool r) ∧ Chg [] w w') := by
 refine calls_fr Try.func48 rfl Try.ntmps48 (Nat.le_of_ble_eq_true rfl) ?_
 have hO := Own.start (N := Nw w []) hM Nw.fut
 have hC := Chg.refl [] w
 unfold s_impl_arePartitions at hs
 refine wp_mono (Q := KPost (k_impl_arePartitions M w r)) ?_ (fun e a a8 h => ?_)
 rotate_left
 ·cases e
  case ret =>
   obtain ⟨σ, rfl, hrest⟩ := h
   exact ret1x Try.results48 (res_tmp rfl) ⟨rfl, hrest⟩
  all_goals exact (h : False).elim
 refine c_sr ?_
 refine pl_val (.bool false) (y_assign rfl) ?_
 refine c_nil ?_
 refine c_sr ?_
 refine pl_val (.int .i64 n) (y_move rfl) ?_
 obtain ⟨r4, a5, hs⟩ := bind_some hs
 refine pl_call Bd32 rfl (c_impl_isSize (M := M) n  hO.fut a5) ?_
 rintro _ a9 ⟨rfl, a2⟩
 have h0 := h0.ext a2
 have h1 := h1.ext a2
 have hC := hC.ext a2
 have hO := hO.ext a2
 refine pl_val (.bool r4) (y_move rfl) ?_
 rcases bif_some hs with ⟨a0, hs⟩ | ⟨a0, hs⟩
 ·skip
  refine pl_yes (.int .i64 n) (tg := 9) (by kernel_rfl) (congrArg Value.bool a0) (y_move rfl) ?_
  refine pl_yes (.slice pa0 pn0 pc0) (tg := 9) (by kernel_rfl) (congrArg Value.bool a0) (y_move rfl) ?_
  obtain ⟨r7, a6, hs⟩ := bind_some hs
  refine pl_cally (tg := 9) (by kernel_rfl) (congrArg Value.bool a0) Bd77 rfl (c_impl_isPartition (M := M) n p h0 hO.fut a6) ?_
  rintro _ b0 ⟨rfl, a3⟩
  have h0 := h0.ext a3
  have h1 := h1.ext a3
  have hC := hC.ext a3
  have hO := hO.ext a3
  refine pl_val (.bool r7) (y_pick_t (congrArg Value.bool a0) rfl) ?_
  refine pl_val (.bool r7) (y_move rfl) ?_
  rcases bif_some hs with ⟨a1, hs⟩ | ⟨a1, hs⟩
  ·skip
   refine pl_yes (.int .i64 n) (tg := 14) (by kernel_rfl) (congrArg Value.bool a1) (y_move rfl) ?_
   refine pl_yes (.slice pa1 pn1 pc1) (tg := 14) (by kernel_rfl) (congrArg Value.bool a1) (y_move rfl) ?_
   obtain ⟨r10, a7, hs⟩ := bind_some hs
   refine pl_cally (tg := 14) (by kernel_rfl) (congrArg Value.bool a1) Bd77 rfl (c_impl_isPartition (M := M) n q h1 hO.fut a7) ?_
   rintro _ b1 ⟨rfl, a4⟩
   have h0 := h0.ext a4
   have h1 := h1.ext a4
   have hC := hC.ext a4
   have hO := hO.ext a4
   refine pl_val (.bool r10) (y_pick_t (congrArg Value.bool a1) rfl) ?_
   refine pl_val (.bool r10) (y_assign rfl) ?_
   refine c_nil ?_
   refine wp_ret ?_
   cases hs
   exact ⟨_, fr_ovl 19 ⟨rfl, trivial⟩, hC⟩
  refine pl_not (tg := 14) (by kernel_rfl) (congrArg Value.bool a1) ?_
  refine pl_not (tg := 14) (by kernel_rfl) (congrArg Value.bool a1) ?_
  refine pl_not (tg := 14) (by kernel_rfl) (congrArg Value.bool a1) ?_
  refine pl_val (.bool false) (y_pick_f (congrArg Value.bool a1) rfl) ?_
  refine pl_val (.bool false) (y_assign rfl) ?_
  refine c_nil ?_
  refine wp_ret ?_
  cases hs
  exact ⟨_, fr_ovl 19 ⟨rfl, trivial⟩, hC⟩
 refine pl_not (tg := 9) (by kernel_rfl) (congrArg Value.bool a0) ?_
 refine pl_not (tg := 9) (by kernel_rfl) (congrArg Value.bool a0) ?_
 refine pl_not (tg := 9) (by kernel_rfl) (congrArg Value.bool a0) ?_
 refine pl_val (.bool false) (y_pick_f (congrArg Value.bool a0) rfl) ?_
 refine pl_val (.bool false) (y_move rfl) ?_
 refine pl_not (tg := 14) (by kernel_rfl) (by rfl) ?_
 refine pl_not (tg := 14) (by kernel_rfl) (by rfl) ?_
 refine pl_not (tg := 14) (by kernel_rfl) (by rfl) ?_
 refine pl_val (.bool false) (y_pick_f (by rfl) rfl) ?_
 refine pl_val (.bool false) (y_assign rfl) ?_
 refine c_nil ?_
 refine wp_ret ?_
 cases hs
 exact ⟨_, fr_ovl 19 ⟨rfl, trivial⟩, hC⟩

theorem Rw71 : RowT Try.prog 71 84 1 [(.slice none 0 0)] := ⟨Try.underlying71, ⟨_, _, rfl, rfl, rfl, rfl, by decide⟩, rfl, by decide⟩

theorem Sl71 : SlT Try.prog 71 84 := Try.underlying71

theorem Rw84 : RowT Try.prog 84 4 1 [(.bool false)] := ⟨Try.underlying84, ⟨_, _, rfl, rfl, rfl, rfl, by decide⟩, rfl, by decide⟩

theorem Sz84 : SzT Try.prog 84 1 := ⟨_, rfl, rfl⟩

theorem Ag84 : AggT Try.prog 84 false := fun _ => by kernel_rfl

theorem Sl84 : SlT Try.prog 84 4 := Try.underlying84

theorem Sz4 : SzT Try.prog 4 1 := ⟨_, rfl, rfl⟩

theorem Ag4 : AggT Try.prog 4 false := fun _ => by kernel_rfl

def k_impl_productTable (M : Nat → Prop) (w0 : World) (r : (List (List Bool))) (a : Act) (w : World) : Prop :=
  ∃ (σ : Nat → Value) (ra0 : Option Addr) (rn0 rc0 : Nat) (rf0 : List Nat), a = fr 71 (ovl σ [(4, (.slice ra0 rn0 rc0))]) ∧ Chg [] w0 w ∧ (RT.os 84 (RT.os 4 RT.bool)).val M w (.slice ra0 rn0 rc0) r rf0 ∧ Own (Nw w0 []) (fun _ => True) w (rf0 ++ ([]))
def s_impl_productTable (p : List Int) (q : List Int) : Option ((List (List Bool))) :=
  (mks (p.length : Int) ([] : List Bool)).bind fun y4 =>
  (forC (S := (List (List Bool))) (R := (List (List Bool))) (fun k669 s667 =>
  (mks (p.length : Int) (false : Bool)).bind fun y676 =>
  (idx s667 k669).bind fun x678 =>
  (forC (S := (List (List Bool))) (R := (List (List Bool))) (fun k894 s892 =>
  (iter (S := Int × (List (List Bool))) (R := (List (List Bool))) (fun s965 =>
  ((bif (decide (s965.1 < (p.length : Int))) then (idx p k669).bind fun x978 =>
  (idx p k894).bind fun x980 =>
  some (x978 == x980) else some false)).bind fun s973 =>
  (bif s973 then (idx s965.2 k669).bind fun x984 =>
  (idx s965.2 k669).bind fun x988 =>
  (idx x988 s965.1).bind fun x992 =>
  (bif x992 then (idx x984 s965.1).bind fun x995 =>
  some (.nx (w64 (s965.1 + 1), List.set s965.2 (Int.toNat k669) (List.set x984 (Int.toNat s965.1) true))) else (idx q k894).bind fun x998 =>
  (idx q s965.1).bind fun x1000 =>
  (idx x984 s965.1).bind fun x1002 =>
  some (.nx (w64 (s965.1 + 1), List.set s965.2 (Int.toNat k669) (List.set x984 (Int.toNat s965.1) (x998 == x1000))))) else some (.br (s965.1, s965.2)))) FU (0, s892)).bind fun o969 => after o969 (fun r_ => some (.rt r_)) (fun s965 =>
  some (.nx s965.2))) 0 (p.length : Int) (List.set s667 (Int.toNat k669) y676)).bind fun o896 => after o896 (fun r_ => some (.rt r_)) (fun s892 =>
  some (.nx s892))) 0 (y4.length : Int) y4).bind fun o671 => after o671 (fun r_ => some r_) (fun s667 =>
  some s667)
set_option maxHeartbeats 4000000 in
theorem c_impl_productTable {M : Nat → Prop} {w : World} {pa0 : Option Addr} {pn0 pc0 : Nat} {pa1 : Option Addr} {pn1 pc1 : Nat} (p : List Int) (q : List Int) (h0 : (RT.rs (RT.int .i64)).val M w (.slice pa0 pn0 pc0) p ([])) (h1 : (RT.rs (RT.int .i64)).val M w (.slice pa1 pn1 pc1) q ([])) (hM : ∀ g, w.heap.size ≤ g → M g) {r : (List (List Bool))} (hs : s_impl_productTable p q = some r) :
    Gives Try.prog 58 [(.slice pa0 pn0 pc0), (.slice pa1 pn1 pc1)] w (fun v w' => ∃ (ra0 : Option Addr) (rn0 rc0 : Nat) (rf0 : List Nat), v = (.slice ra0 rn0 rc0) ∧ Chg [] w w' ∧ (RT.os 84 (RT.os 4 RT.bool)).val M w' (.slice ra0 rn0 rc0) r rf0 ∧ Own (Nw w []) (fun _ => True) w' (rf0 ++ ([]))) := by
 refine calls_fr Try.func58 rfl Try.ntmps58 (Nat.le_of_ble_eq_true rfl) ?_
 have hO := Own.start (N := Nw w []) hM Nw.fut
 have hC := Chg.refl [] w
 unfold s_impl_productTable at hs
 refine wp_mono (Q := KPost (k_impl_productTable M w r)) ?_ (fun e a d0 h => ?_)
 rotate_left
 ·cases e
  case ret =>
   obtain ⟨σ, ra0, rn0, rc0, rf0, rfl, hrest⟩ := h
   exact ret1x Try.results58 (res_tmp rfl) ⟨ra0, rn0, rc0, rf0, rfl, hrest⟩
  all_goals exact (h : False).elim
 refine c_sr ?_
 refine pl_val (.slice none 0 0) (y_assign rfl) ?_
 refine c_nil ?_
 refine c_sr ?_
 refine pl_val (.slice pa0 pn0 pc0) (y_move rfl) ?_
 refine pl_val (.int .i64 (p.length : Int)) (y_len' Sl25 (rs_len h0) rfl) ?_
 refine pl_val (.int .i64 (p.length : Int)) (y_assign rfl) ?_
 refine c_nil ?_
 refine c_sr ?_
 refine pl_val (.int .i64 (p.length : Int)) (y_move rfl) ?_
 obtain ⟨y4, f3, hs⟩ := bind_some hs
 obtain ⟨a0, a1, a2, f4, f5, f6, b8, f7, b9⟩ := mk_os (M := M) (w := w) (r := (RT.os 4 RT.bool)) Rw71 f3 (fun _ _ => (os_unval os_nil))
 refine pl_val (w' := f4) (.slice a0 a1 a2) (y_make rfl rfl f6) ?_
 have h0 := h0.ext b8
 have h1 := h1.ext b8
 have hC := hC.ext b8
 have hO := hO.new b8 f7 (os_nodup b9) b9.fpl
 refine pl_val (.slice a0 a1 a2) (y_assign rfl) ?_
 refine c_nil ?_
 refine c_seq ?_
 refine c_sr ?_
 refine pl_val (.slice a0 a1 a2) (y_move rfl) ?_
 refine pl_val (.int .i64 (y4.length : Int)) (y_len' Sl71 (os_len b9) rfl) ?_
 refine pl_val (.int .i64 0) (y_move rfl) ?_
 refine c_nil ?_
 obtain ⟨o671, f8, hs⟩ := bind_some hs
 refine wp_block ?_
 refine wp_forC (id := 0) (y4.length : Int) (I := fun k669 s667 a a6 => ∃ (σ : Nat → Value) (b0 : List Nat), a = fr 71 (ovl σ [(0, (.slice pa0 pn0 pc0)), (1, (.slice pa1 pn1 pc1)), (5, (.int .i64 (p.length : Int))), (6, (.slice a0 a1 a2)), (15, (.int .i64 (y4.length : Int))), (16, (.int .i64 k669))]) ∧ Chg [] w a6 ∧ Own (Nw w []) M a6 (b0 ++ []) ∧ (RT.rs (RT.int .i64)).val M a6 (.slice pa0 pn0 pc0) p ([]) ∧ (RT.rs (RT.int .i64)).val M a6 (.slice pa1 pn1 pc1) q ([]) ∧ (RT.os 84 (RT.os 4 RT.bool)).val M a6 (.slice a0 a1 a2) s667 b0) (J := fun s667 a a6 => ∃ (σ : Nat → Value) (c0 : List Nat), a = fr 71 (ovl σ [(6, (.slice a0 a1 a2))]) ∧ Chg [] w a6 ∧ Own (Nw w []) M a6 (c0 ++ []) ∧ (RT.rs (RT.int .i64)).val M a6 (.slice pa0 pn0 pc0) p ([]) ∧ (RT.rs (RT.int .i64)).val M a6 (.slice pa1 pn1 pc1) q ([]) ∧ (RT.os 84 (RT.os 4 RT.bool)).val M a6 (.slice a0 a1 a2) s667 c0) (K := (k_impl_productTable M w)) ?_ ?_ 0 y4 o671 _ _ ?_ f8 ?_
 ·rintro k669 s667 a a6 ⟨σ, b0, rfl, hC, hO, h0, h1, a9⟩ hlt
  refine c_sr ?_
  refine pl_val (.bool (decide (k669 < (y4.length : Int)))) (y_lss rfl rfl) ?_
  refine c_nil ?_
  refine c_seq ?_
  refine c_condF (congrArg Value.bool (decide_eq_false hlt)) ?_
  refine wp_exit ?_
  exact ⟨rfl, _, b0, fr_ovl 71 ⟨rfl, trivial⟩, hC, hO, h0, h1, a9⟩
 ·rintro k669 s667 o671 a a6 ⟨σ, b0, rfl, hC, hO, h0, h1, a9⟩ hlt hw hs
  refine c_sr ?_
  refine pl_val (.bool (decide (k669 < (y4.length : Int)))) (y_lss rfl rfl) ?_
  refine c_nil ?_
  refine c_seq ?_
  refine c_condT (congrArg Value.bool (decide_eq_true hlt)) ?_
  refine wp_skip ?_
  refine c_seq ?_
  refine wp_block ?_
  refine c_sr ?_
  refine pl_val (.int .i64 k669) (y_move rfl) ?_
  refine pl_val (.int .i64 k669) (y_assign rfl) ?_
  refine c_nil ?_
  refine c_sr ?_
  refine pl_val (.slice a0 a1 a2) (y_move rfl) ?_
  refine pl_val (.int .i64 k669) (y_move rfl) ?_
  refine pl_val (.int .i64 (p.length : Int)) (y_move rfl) ?_
  obtain ⟨y676, f9, hs⟩ := bind_some hs
  obtain ⟨e3, e4, e5, g0, e6, g1, b5, g2, d1⟩ := mk_os (M := M) (w := a6) (r := RT.bool) Rw84 f9 (fun _ _ => ⟨rfl, rfl⟩)
  refine pl_val (w' := g0) (.slice e3 e4 e5) (y_make rfl rfl g1) ?_
  have h0 := h0.ext b5
  have h1 := h1.ext b5
  have a9 := a9.ext b5
  have hC := hC.ext b5
  have hO := hO.new b5 g2 (os_nodup d1) d1.fpl
  obtain ⟨x678, g3, hs⟩ := bind_some hs
  obtain ⟨e7, o5, e8, g4, g5, g6, g7⟩ := os_idx Sl71 Sz84 a9 g3
  have o6 := own_row (Frz.os Frz.bool) g6 g7
  refine pl_val (.pointer (some ⟨e7, 0 + Int.toNat k669 * 1, none⟩)) (g5 _ _ _ _ _ _ _ _ _ rfl rfl) ?_
  have hO := hO.fr1
  obtain ⟨g8, g9, h2, c1, h3, d2⟩ := os_store (P := Try.prog) (c' := [(.slice e3 e4 e5)]) e8 a9 g4 (fun g hg => hO.inM g (os_block a9 g (by simpa using hg))) (os_unval d1) (hO.drop.perm (R := e6 ++ ([])) (by simp)).nd (fun g hg hq => hO.apart g hq (by simp only [List.mem_append, List.not_mem_nil, false_or, or_false] at hg ⊢; simp [hg])) (fun _ h => .inl h)
  have d3 : ∀ q ∈ [e7], q ∈ b0 := fun q hq => os_block a9 q (by rw [e8]; exact hq)
  refine pl_skip (w' := g8) (ys_store rfl rfl (h2 _ _ rfl Sz84)) ?_
  have hO := hO.fr1
  have hO := hO.fr1
  have h0 := h0.mt c1 hO d3
  have h1 := h1.mt c1 hO d3
  have hC := hC.st c1 hO d3
  have hO := hO.perm (R := b0 ++ (e6 ++ ([]))) (by simp)
  have hO := hO.eat c1 (fun q hq => (h3 q hq).elim .inl (fun h => .inr (.inl h))) (os_nodup d2) d2.fpl
  refine c_nil ?_
  refine c_sr ?_
  refine pl_val (.int .i64 0) (y_assign rfl) ?_
  refine c_nil ?_
  obtain ⟨o896, h4, hs⟩ := bind_some hs
  refine wp_block ?_
  refine wp_forC (id := 2) (p.length : Int) (I := fun k894 s892 a a7 => ∃ (σ : Nat → Value) (b2 : List Nat), a = fr 71 (ovl σ [(0, (.slice pa0 pn0 pc0)), (1, (.slice pa1 pn1 pc1)), (5, (.int .i64 (p.length : Int))), (6, (.slice a0 a1 a2)), (7, (.int .i64 k669)), (8, (.int .i64 k894)), (15, (.int .i64 (y4.length : Int))), (16, (.int .i64 k669))]) ∧ Chg [] w a7 ∧ Own (Nw w []) M a7 (b2 ++ []) ∧ (RT.rs (RT.int .i64)).val M a7 (.slice pa0 pn0 pc0) p ([]) ∧ (RT.rs (RT.int .i64)).val M a7 (.slice pa1 pn1 pc1) q ([]) ∧ (RT.os 84 (RT.os 4 RT.bool)).val M a7 (.slice a0 a1 a2) s892 b2) (J := fun s892 a a7 => ∃ (σ : Nat → Value) (c2 : List Nat), a = fr 71 (ovl σ [(0, (.slice pa0 pn0 pc0)), (1, (.slice pa1 pn1 pc1)), (5, (.int .i64 (p.length : Int))), (6, (.slice a0 a1 a2)), (15, (.int .i64 (y4.length : Int))), (16, (.int .i64 k669))]) ∧ Chg [] w a7 ∧ Own (Nw w []) M a7 (c2 ++ []) ∧ (RT.rs (RT.int .i64)).val M a7 (.slice pa0 pn0 pc0) p ([]) ∧ (RT.rs (RT.int .i64)).val M a7 (.slice pa1 pn1 pc1) q ([]) ∧ (RT.os 84 (RT.os 4 RT.bool)).val M a7 (.slice a0 a1 a2) s892 c2) (K := (k_impl_productTable M w)) ?_ ?_ 0 (List.set s667 (Int.toNat k669) y676) o896 _ _ ?_ h4 ?_
  ·rintro k894 s892 a a7 ⟨σ, b2, rfl, hC, hO, h0, h1, d4⟩ hlt
   refine c_seq ?_
   refine c_sr ?_
   refine pl_val (.int .i64 k894) (y_move rfl) ?_
   refine pl_val (.int .i64 (p.length : Int)) (y_move rfl) ?_
   refine pl_val (.bool (decide (k894 < (p.length : Int)))) (y_lss rfl rfl) ?_
   refine c_nil ?_
   refine c_condF (congrArg Value.bool (decide_eq_false hlt)) ?_
   refine wp_exit ?_
   exact ⟨rfl, _, b2, fr_ovl 71 ⟨rfl, rfl, rfl, rfl, rfl, rfl, trivial⟩, hC, hO, h0, h1, d4⟩
  ·rintro k894 s892 o896 a a7 ⟨σ, b2, rfl, hC, hO, h0, h1, d4⟩ hlt hw hs
   refine c_seq ?_
   refine c_sr ?_
   refine pl_val (.int .i64 k894) (y_move rfl) ?_
   refine pl_val (.int .i64 (p.length : Int)) (y_move rfl) ?_
   refine pl_val (.bool (decide (k894 < (p.length : Int)))) (y_lss rfl rfl) ?_
   refine c_nil ?_
   refine c_condT (congrArg Value.bool (decide_eq_true hlt)) ?_
   refine wp_skip ?_
   refine c_seq ?_
   refine wp_block ?_
   refine c_sr ?_
   refine pl_val (.int .i64 0) (y_assign rfl) ?_
   refine c_nil ?_
   obtain ⟨o969, h5, hs⟩ := bind_some hs
   refine wp_block ?_
   refine wp_iter (id := 4) (I := fun s965 a a5 => ∃ (σ : Nat → Value) (c3 : List Nat), a = fr 71 (ovl σ [(0, (.slice pa0 pn0 pc0)), (1, (.slice pa1 pn1 pc1)), (5, (.int .i64 (p.length : Int))), (6, (.slice a0 a1 a2)), (7, (.int .i64 k669)), (8, (.int .i64 k894)), (9, (.int .i64 s965.1)), (15, (.int .i64 (y4.length : Int))), (16, (.int .i64 k669))]) ∧ Chg [] w a5 ∧ Own (Nw w []) M a5 (c3 ++ []) ∧ (RT.rs (RT.int .i64)).val M a5 (.slice pa0 pn0 pc0) p ([]) ∧ (RT.rs (RT.int .i64)).val M a5 (.slice pa1 pn1 pc1) q ([]) ∧ (RT.os 84 (RT.os 4 RT.bool)).val M a5 (.slice a0 a1 a2) s965.2 c3) (J := fun s965 a a5 => ∃ (σ : Nat → Value) (c4 : List Nat), a = fr 71 (ovl σ [(0, (.slice pa0 pn0 pc0)), (1, (.slice pa1 pn1 pc1)), (5, (.int .i64 (p.length : Int))), (6, (.slice a0 a1 a2)), (7, (.int .i64 k669)), (8, (.int .i64 k894)), (15, (.int .i64 (y4.length : Int))), (16, (.int .i64 k669))]) ∧ Chg [] w a5 ∧ Own (Nw w []) M a5 (c4 ++ []) ∧ (RT.rs (RT.int .i64)).val M a5 (.slice pa0 pn0 pc0) p ([]) ∧ (RT.rs (RT.int .i64)).val M a5 (.slice pa1 pn1 pc1) q ([]) ∧ (RT.os 84 (RT.os 4 RT.bool)).val M a5 (.slice a0 a1 a2) s965.2 c4) (K := (k_impl_productTable M w)) ?_ FU (0, s892) o969 _ _ ?_ h5 ?_
   ·rintro s965 o969 a a5 ⟨σ, c3, rfl, hC, hO, h0, h1, a8⟩ hs
    refine c_seq ?_
    refine c_seq ?_
    obtain ⟨s973, h6, hs⟩ := bind_some hs
    refine c_mid (I := fun a c5 => ∃ (σ : Nat → Value), a = fr 71 (ovl σ [(0, (.slice pa0 pn0 pc0)), (1, (.slice pa1 pn1 pc1)), (5, (.int .i64 (p.length : Int))), (6, (.slice a0 a1 a2)), (7, (.int .i64 k669)), (8, (.int .i64 k894)), (9, (.int .i64 s965.1)), (15, (.int .i64 (y4.length : Int))), (16, (.int .i64 k669)), (42, (.bool s973))]) ∧ Chg [] a5 c5) ?_ ?_
    ·replace hs := h6
     have hMid := Chg.refl [] a5
     refine x_start [] Mx rfl ?_
     have b1 := Chg.drew a5
     generalize World.drew a5 = h7 at b1 ⊢
     have h0 := h0.ext b1
     have h1 := h1.ext b1
     have a8 := a8.ext b1
     have hMid := hMid.ext b1
     have hC := hC.ext b1
     have hO := hO.ext b1
     have hS := Chg.refl [] h7
     refine x_p 0 (.int .i64 s965.1) rfl (by kernel_rfl)  (fun _ => y_move rfl) (fun _ => hS) ?_
     refine x_p 1 (.int .i64 (p.length : Int)) rfl (by kernel_rfl)  (fun _ => y_move rfl) (fun _ => hS) ?_
     refine x_p 2 (.bool (decide (s965.1 < (p.length : Int)))) rfl (by kernel_rfl)  (fun _ => y_lss rfl rfl) (fun _ => hS) ?_
     refine x_p 3 (.bool (decide (s965.1 < (p.length : Int)))) rfl (by kernel_rfl)  (fun _ => y_move rfl) (fun _ => hS) ?_
     rcases bif_some hs with ⟨a3, hs⟩ | ⟨a3, hs⟩
     ·skip
      refine x_py 4 (.slice pa0 pn0 pc0) rfl (by kernel_rfl) (tg := 32) (by kernel_rfl) (congrArg Value.bool a3) (fun _ => y_move rfl) (fun _ => hS) ?_
      refine x_py 5 (.int .i64 k669) rfl (by kernel_rfl) (tg := 32) (by kernel_rfl) (congrArg Value.bool a3) (fun _ => y_move rfl) (fun _ => hS) ?_
      obtain ⟨x978, h8, hs⟩ := bind_some hs
      obtain ⟨h9, i0, i1, i2⟩ := rs_idx Sl25 Sz3 h0 h8
      refine x_py 6 (.pointer (some ⟨h9, i0, none⟩)) rfl (by kernel_rfl) (tg := 32) (by kernel_rfl) (congrArg Value.bool a3) (fun _ => i1 _ _ _ _ _ _ _ _ _ rfl rfl) (fun _ => hS) ?_
      refine x_ly 7 (.int .i64 x978) rfl (by kernel_rfl) (tg := 32) (by kernel_rfl) (congrArg Value.bool a3) (fun w' hw' => y_load rfl ((at_load_int Ag3 Sz3 i2) w' hw')) hS ?_
      refine x_py 8 (.slice pa0 pn0 pc0) rfl (by kernel_rfl) (tg := 32) (by kernel_rfl) (congrArg Value.bool a3) (fun _ => y_move rfl) (fun _ => hS) ?_
      refine x_py 9 (.int .i64 k894) rfl (by kernel_rfl) (tg := 32) (by kernel_rfl) (congrArg Value.bool a3) (fun _ => y_move rfl) (fun _ => hS) ?_
      obtain ⟨x980, i3, hs⟩ := bind_some hs
      obtain ⟨i4, i5, i6, i7⟩ := rs_idx Sl25 Sz3 h0 i3
      refine x_py 10 (.pointer (some ⟨i4, i5, none⟩)) rfl (by kernel_rfl) (tg := 32) (by kernel_rfl) (congrArg Value.bool a3) (fun _ => i6 _ _ _ _ _ _ _ _ _ rfl rfl) (fun _ => hS) ?_
      refine x_ly 11 (.int .i64 x980) rfl (by kernel_rfl) (tg := 32) (by kernel_rfl) (congrArg Value.bool a3) (fun w' hw' => y_load rfl ((at_load_int Ag3 Sz3 i7) w' hw')) hS ?_
      refine x_py 12 (.bool (x978 == x980)) rfl (by kernel_rfl) (tg := 32) (by kernel_rfl) (congrArg Value.bool a3) (fun _ => y_eql rfl rfl) (fun _ => hS) ?_
      refine x_p 13 (.bool (x978 == x980)) rfl (by kernel_rfl)  (fun _ => y_pick_t (congrArg Value.bool a3) rfl) (fun _ => hS) ?_
      refine x_end (by kernel_rfl) ?_
      clear hS
      cases hs
      exact ⟨_, fr_ovl 71 ⟨rfl, rfl, rfl, rfl, rfl, rfl, rfl, rfl, rfl, rfl, trivial⟩, hMid⟩
     refine x_pn 4 rfl (by kernel_rfl) (tg := 32) (by kernel_rfl) (congrArg Value.bool a3) (fun _ => hS) ?_
     refine x_pn 5 rfl (by kernel_rfl) (tg := 32) (by kernel_rfl) (congrArg Value.bool a3) (fun _ => hS) ?_
     refine x_pn 6 rfl (by kernel_rfl) (tg := 32) (by kernel_rfl) (congrArg Value.bool a3) (fun _ => hS) ?_
     refine x_pn 7 rfl (by kernel_rfl) (tg := 32) (by kernel_rfl) (congrArg Value.bool a3) (fun _ => hS) ?_
     refine x_pn 8 rfl (by kernel_rfl) (tg := 32) (by kernel_rfl) (congrArg Value.bool a3) (fun _ => hS) ?_
     refine x_pn 9 rfl (by kernel_rfl) (tg := 32) (by kernel_rfl) (congrArg Value.bool a3) (fun _ => hS) ?_
     refine x_pn 10 rfl (by kernel_rfl) (tg := 32) (by kernel_rfl) (congrArg Value.bool a3) (fun _ => hS) ?_
     refine x_pn 11 rfl (by kernel_rfl) (tg := 32) (by kernel_rfl) (congrArg Value.bool a3) (fun _ => hS) ?_
     refine x_pn 12 rfl (by kernel_rfl) (tg := 32) (by kernel_rfl) (congrArg Value.bool a3) (fun _ => hS) ?_
     refine x_p 13 (.bool false) rfl (by kernel_rfl)  (fun _ => y_pick_f (congrArg Value.bool a3) rfl) (fun _ => hS) ?_
     refine x_end (by kernel_rfl) ?_
     clear hS
     cases hs
     exact ⟨_, fr_ovl 71 ⟨rfl, rfl, rfl, rfl, rfl, rfl, rfl, rfl, rfl, rfl, trivial⟩, hMid⟩
    rintro b3 c5 ⟨σ, rfl, b6⟩
    have h0 := h0.ext b6
    have h1 := h1.ext b6
    have a8 := a8.ext b6
    have hC := hC.ext b6
    have hO := hO.ext b6
    rcases bif_some hs with ⟨d5, hs⟩ | ⟨d5, hs⟩
    ·refine c_condT (congrArg Value.bool d5) ?_
     refine wp_skip ?_
     refine c_seq ?_
     refine wp_block ?_
     refine x_start [24] Mx rfl ?_
     have b4 := Chg.drew c5
     generalize World.drew c5 = c6 at b4 ⊢
     have h0 := h0.ext b4
     have h1 := h1.ext b4
     have a8 := a8.ext b4
     have hC := hC.ext b4
     have hO := hO.ext b4
     have hS := Chg.refl [] c6
     refine x_p 0 (.slice a0 a1 a2) rfl (by kernel_rfl)  (fun _ => y_move rfl) (fun _ => hS) ?_
     refine x_p 1 (.int .i64 k669) rfl (by kernel_rfl)  (fun _ => y_move rfl) (fun _ => hS) ?_
     obtain ⟨x984, b7, hs⟩ := bind_some hs
     obtain ⟨i9, o7, c7, o8, j0, j1, j2⟩ := os_idx Sl71 Sz84 a8 b7
     have j3 := own_row (Frz.os Frz.bool) j1 j2
     refine x_p 2 (.pointer (some ⟨i9, 0 + Int.toNat k669 * 1, none⟩)) rfl (by kernel_rfl)  (fun _ => j0 _ _ _ _ _ _ _ _ _ rfl rfl) (fun _ => hS) ?_
     obtain ⟨o9, j4, hrow986, j5⟩ := at_load1 Ag84 Sz84 rfl rfl j3
     obtain ⟨d6, d7, d8, rfl⟩ := rs_sl j5
     refine x_l 3 (.slice d6 d7 d8) rfl (by kernel_rfl)  (fun w' hw' => y_load rfl (j4 w' hw')) hS ?_
     refine x_p 4 (.int .i64 s965.1) rfl (by kernel_rfl)  (fun _ => y_move rfl) (fun _ => hS) ?_
     refine x_p 5 (.slice a0 a1 a2) rfl (by kernel_rfl)  (fun _ => y_move rfl) (fun _ => hS) ?_
     refine x_p 6 (.int .i64 k669) rfl (by kernel_rfl)  (fun _ => y_move rfl) (fun _ => hS) ?_
     obtain ⟨x988, e9, hs⟩ := bind_some hs
     obtain ⟨j6, p0, j7, p1, j8, j9, k0⟩ := os_idx Sl71 Sz84 a8 e9
     have k1 := own_row (Frz.os Frz.bool) j9 k0
     refine x_p 7 (.pointer (some ⟨j6, 0 + Int.toNat k669 * 1, none⟩)) rfl (by kernel_rfl)  (fun _ => j8 _ _ _ _ _ _ _ _ _ rfl rfl) (fun _ => hS) ?_
     obtain ⟨p2, k2, hrow990, k3⟩ := at_load1 Ag84 Sz84 rfl rfl k1
     obtain ⟨f0, f1, f2, rfl⟩ := rs_sl k3
     refine x_l 8 (.slice f0 f1 f2) rfl (by kernel_rfl)  (fun w' hw' => y_load rfl (k2 w' hw')) hS ?_
     refine x_p 9 (.int .i64 s965.1) rfl (by kernel_rfl)  (fun _ => y_move rfl) (fun _ => hS) ?_
     obtain ⟨x992, k4, hs⟩ := bind_some hs
     obtain ⟨k5, k6, p3, _, _⟩ := os_put j7 a8 e9 hrow990 rfl hO.inM
     obtain ⟨k7, p4, p5, p6, k8, k9, p7⟩ := os_idx Sl84 Sz4 (show (RT.os 4 RT.bool).val M c6 (.slice f0 f1 f2) _ k5 from ⟨[_], rfl, k6⟩) k4
     refine x_p 10 (.pointer (some ⟨k7, 0 + Int.toNat s965.1 * 1, none⟩)) rfl (by kernel_rfl)  (fun _ => k8 _ _ _ _ _ _ _ _ _ rfl rfl) (fun _ => hS) ?_
     refine x_l 11 (.bool x992) rfl (by kernel_rfl)  (fun w' hw' => y_load rfl ((at_load_bool Ag4 Sz4 k9) w' hw')) hS ?_
     refine x_p 12 (.bool x992) rfl (by kernel_rfl)  (fun _ => y_move rfl) (fun _ => hS) ?_
     rcases bif_some hs with ⟨a4, hs⟩ | ⟨a4, hs⟩
     ·skip
      refine x_pn 13 rfl (by kernel_rfl) (tg := 57) (by kernel_rfl) (congrArg Value.bool a4) (fun _ => hS) ?_
      refine x_pn 14 rfl (by kernel_rfl) (tg := 57) (by kernel_rfl) (congrArg Value.bool a4) (fun _ => hS) ?_
      refine x_pn 15 rfl (by kernel_rfl) (tg := 57) (by kernel_rfl) (congrArg Value.bool a4) (fun _ => hS) ?_
      refine x_pn 16 rfl (by kernel_rfl) (tg := 57) (by kernel_rfl) (congrArg Value.bool a4) (fun _ => hS) ?_
      refine x_pn 17 rfl (by kernel_rfl) (tg := 57) (by kernel_rfl) (congrArg Value.bool a4) (fun _ => hS) ?_
      refine x_pn 18 rfl (by kernel_rfl) (tg := 57) (by kernel_rfl) (congrArg Value.bool a4) (fun _ => hS) ?_
      refine x_pn 19 rfl (by kernel_rfl) (tg := 57) (by kernel_rfl) (congrArg Value.bool a4) (fun _ => hS) ?_
      refine x_pn 20 rfl (by kernel_rfl) (tg := 57) (by kernel_rfl) (congrArg Value.bool a4) (fun _ => hS) ?_
      refine x_pn 21 rfl (by kernel_rfl) (tg := 57) (by kernel_rfl) (congrArg Value.bool a4) (fun _ => hS) ?_
      refine x_p 22 (.bool true) rfl (by kernel_rfl)  (fun _ => y_pick_t (congrArg Value.bool a4) rfl) (fun _ => hS) ?_
      obtain ⟨x995, l0, hs⟩ := bind_some hs
      obtain ⟨l1, l2, p8, _, _⟩ := os_put c7 a8 b7 hrow986 rfl hO.inM
      obtain ⟨l3, p9, l4, l5, l6, q0, q1⟩ := os_idx Sl84 Sz4 (show (RT.os 4 RT.bool).val M c6 (.slice d6 d7 d8) _ l1 from ⟨[_], rfl, l2⟩) l0
      refine x_p 23 (.pointer (some ⟨l3, 0 + Int.toNat s965.1 * 1, none⟩)) rfl (by kernel_rfl)  (fun _ => l6 _ _ _ _ _ _ _ _ _ rfl rfl) (fun _ => hS) ?_
      refine x_one (i := 24) (by kernel_rfl) ?_
      obtain ⟨l7, l8, l9, c8, d9, m0, e0⟩ := os_store2 (P := Try.prog) (c' := [(.bool true)]) c7 a8 b7 hrow986 l4 l5 hO.inM ⟨rfl, rfl⟩
      refine xk_skip (w' := l7) (b := true) rfl (ys_store rfl rfl (l9 _ _ rfl Sz4)) rfl (fun h => nomatch h) ?_
      have h0 := h0.mt c8 hO d9
      have h1 := h1.mt c8 hO d9
      have hC := hC.st c8 hO d9
      have hO := hO.grow c8 m0 (os_nodup e0) e0.fpl
      refine x_end (by kernel_rfl) ?_
      clear hS
      refine c_region ?_
      refine pl_val (.int .i64 s965.1) (y_move rfl) ?_
      refine pl_val (.int .i64 (w64 (s965.1 + 1))) (y_add rfl rfl) ?_
      refine pl_val (.int .i64 (w64 (s965.1 + 1))) (y_assign rfl) ?_
      refine c_nil ?_
      cases hs
      exact ⟨_, l8, fr_ovl 71 ⟨rfl, rfl, rfl, rfl, rfl, rfl, rfl, rfl, rfl, trivial⟩, hC, hO, h0, h1, e0⟩
     refine x_py 13 (.slice pa1 pn1 pc1) rfl (by kernel_rfl) (tg := 57) (by kernel_rfl) (congrArg Value.bool a4) (fun _ => y_move rfl) (fun _ => hS) ?_
     refine x_py 14 (.int .i64 k894) rfl (by kernel_rfl) (tg := 57) (by kernel_rfl) (congrArg Value.bool a4) (fun _ => y_move rfl) (fun _ => hS) ?_
     obtain ⟨x998, m1, hs⟩ := bind_some hs
     obtain ⟨m2, m3, m4, m5⟩ := rs_idx Sl25 Sz3 h1 m1
     refine x_py 15 (.pointer (some ⟨m2, m3, none⟩)) rfl (by kernel_rfl) (tg := 57) (by kernel_rfl) (congrArg Value.bool a4) (fun _ => m4 _ _ _ _ _ _ _ _ _ rfl rfl) (fun _ => hS) ?_
     refine x_ly 16 (.int .i64 x998) rfl (by kernel_rfl) (tg := 57) (by kernel_rfl) (congrArg Value.bool a4) (fun w' hw' => y_load rfl ((at_load_int Ag3 Sz3 m5) w' hw')) hS ?_
     refine x_py 17 (.slice pa1 pn1 pc1) rfl (by kernel_rfl) (tg := 57) (by kernel_rfl) (congrArg Value.bool a4) (fun _ => y_move rfl) (fun _ => hS) ?_
     refine x_py 18 (.int .i64 s965.1) rfl (by kernel_rfl) (tg := 57) (by kernel_rfl) (congrArg Value.bool a4) (fun _ => y_move rfl) (fun _ => hS) ?_
     obtain ⟨x1000, m6, hs⟩ := bind_some hs
     obtain ⟨m7, m8, m9, n0⟩ := rs_idx Sl25 Sz3 h1 m6
     refine x_py 19 (.pointer (some ⟨m7, m8, none⟩)) rfl (by kernel_rfl) (tg := 57) (by kernel_rfl) (congrArg Value.bool a4) (fun _ => m9 _ _ _ _ _ _ _ _ _ rfl rfl) (fun _ => hS) ?_
     refine x_ly 20 (.int .i64 x1000) rfl (by kernel_rfl) (tg := 57) (by kernel_rfl) (congrArg Value.bool a4) (fun w' hw' => y_load rfl ((at_load_int Ag3 Sz3 n0) w' hw')) hS ?_
     refine x_py 21 (.bool (x998 == x1000)) rfl (by kernel_rfl) (tg := 57) (by kernel_rfl) (congrArg Value.bool a4) (fun _ => y_eql rfl rfl) (fun _ => hS) ?_
     refine x_p 22 (.bool (x998 == x1000)) rfl (by kernel_rfl)  (fun _ => y_pick_f (congrArg Value.bool a4) rfl) (fun _ => hS) ?_
     obtain ⟨x1002, n1, hs⟩ := bind_some hs
     obtain ⟨n2, n3, q2, _, _⟩ := os_put c7 a8 b7 hrow986 rfl hO.inM
     obtain ⟨n4, q3, n5, n6, n7, q4, q5⟩ := os_idx Sl84 Sz4 (show (RT.os 4 RT.bool).val M c6 (.slice d6 d7 d8) _ n2 from ⟨[_], rfl, n3⟩) n1
     refine x_p 23 (.pointer (some ⟨n4, 0 + Int.toNat s965.1 * 1, none⟩)) rfl (by kernel_rfl)  (fun _ => n7 _ _ _ _ _ _ _ _ _ rfl rfl) (fun _ => hS) ?_
     refine x_one (i := 24) (by kernel_rfl) ?_
     obtain ⟨n8, n9, o0, c9, e1, o1, e2⟩ := os_store2 (P := Try.prog) (c' := [(.bool (x998 == x1000))]) c7 a8 b7 hrow986 n5 n6 hO.inM ⟨rfl, rfl⟩
     refine xk_skip (w' := n8) (b := true) rfl (ys_store rfl rfl (o0 _ _ rfl Sz4)) rfl (fun h => nomatch h) ?_
     have h0 := h0.mt c9 hO e1
     have h1 := h1.mt c9 hO e1
     have hC := hC.st c9 hO e1
     have hO := hO.grow c9 o1 (os_nodup e2) e2.fpl
     refine x_end (by kernel_rfl) ?_
     clear hS
     refine c_region ?_
     refine pl_val (.int .i64 s965.1) (y_move rfl) ?_
     refine pl_val (.int .i64 (w64 (s965.1 + 1))) (y_add rfl rfl) ?_
     refine pl_val (.int .i64 (w64 (s965.1 + 1))) (y_assign rfl) ?_
     refine c_nil ?_
     cases hs
     exact ⟨_, n9, fr_ovl 71 ⟨rfl, rfl, rfl, rfl, rfl, rfl, rfl, rfl, rfl, trivial⟩, hC, hO, h0, h1, e2⟩
    refine c_condF (congrArg Value.bool d5) ?_
    refine wp_exit ?_
    cases hs
    exact ⟨rfl, _, c3, fr_ovl 71 ⟨rfl, rfl, rfl, rfl, rfl, rfl, rfl, rfl, trivial⟩, hC, hO, h0, h1, a8⟩
   ·skip
    exact ⟨_, b2, fr_ovl 71 ⟨rfl, rfl, rfl, rfl, rfl, rfl, rfl, rfl, rfl, trivial⟩, hC, hO, h0, h1, d4⟩
   cases o969 with
   | nx _ => exact True.intro
   | rt r_ =>
    have hs := after_rt hs
    intro b3 d0 hK
    cases hs
    exact hK
   | br s965 =>
    have hs := after_br hs
    rintro b3 a5 ⟨σ, c4, rfl, hC, hO, h0, h1, o2⟩
    refine c_region ?_
    refine pl_val (.int .i64 k894) (y_move rfl) ?_
    refine pl_val (.int .i64 (w64 (k894 + 1))) (y_add rfl rfl) ?_
    refine pl_val (.int .i64 (w64 (k894 + 1))) (y_assign rfl) ?_
    refine c_nil ?_
    cases hs
    exact ⟨_, c4, fr_ovl 71 ⟨rfl, rfl, rfl, rfl, rfl, congrArg (Value.int .i64) hw, rfl, rfl, trivial⟩, hC, hO, h0, h1, o2⟩
  ·skip
   exact ⟨_, g9, fr_ovl 71 ⟨rfl, rfl, rfl, rfl, rfl, rfl, rfl, rfl, trivial⟩, hC, hO, h0, h1, d2⟩
  cases o896 with
  | nx _ => exact True.intro
  | rt r_ =>
   have hs := after_rt hs
   intro b3 d0 hK
   cases hs
   exact hK
  | br s892 =>
   have hs := after_br hs
   rintro b3 a7 ⟨σ, c2, rfl, hC, hO, h0, h1, o3⟩
   refine c_region ?_
   refine pl_val (.int .i64 (w64 (k669 + 1))) (y_add rfl rfl) ?_
   refine pl_val (.int .i64 (w64 (k669 + 1))) (y_move rfl) ?_
   refine c_nil ?_
   cases hs
   exact ⟨_, c2, fr_ovl 71 ⟨rfl, rfl, rfl, rfl, rfl, congrArg (Value.int .i64) hw, trivial⟩, hC, hO, h0, h1, o3⟩
 ·skip
  exact ⟨_, f5, fr_ovl 71 ⟨rfl, rfl, rfl, rfl, rfl, rfl, trivial⟩, hC, hO, h0, h1, b9⟩
 cases o671 with
 | nx _ => exact True.intro
 | rt r_ =>
  have hs := after_rt hs
  intro b3 d0 hK
  cases hs
  exact hK
 | br s667 =>
  have hs := after_br hs
  rintro b3 a6 ⟨σ, c0, rfl, hC, hO, h0, h1, o4⟩
  refine c_sr ?_
  refine pl_val (.slice a0 a1 a2) (y_move rfl) ?_
  refine pl_val (.slice a0 a1 a2) (y_assign rfl) ?_
  refine c_nil ?_
  refine wp_ret ?_
  cases hs
  exact ⟨_, a0, a1, a2, c0, fr_ovl 71 ⟨rfl, trivial⟩, hC, o4, hO.top⟩

theorem Bd58 : Bodied Try.prog 58 := bodied Try.func58 (by kernel_rfl) rfl

def k_impl_unpermuted (M : Nat → Prop) (w0 : World) (r : (List Int) × Bool) (a : Act) (w : World) : Prop :=
  ∃ (σ : Nat → Value) (ra0 : Option Addr) (rn0 rc0 : Nat) (rf0 : List Nat), a = fr 48 (ovl σ [(4, (.slice ra0 rn0 rc0)), (5, (.bool r.2))]) ∧ Chg [] w0 w ∧ (RT.os 3 (RT.int .i64)).val M w (.slice ra0 rn0 rc0) r.1 rf0 ∧ Own (Nw w0 []) (fun _ => True) w (rf0 ++ ([]))
def s_impl_unpermuted (p : List Int) (q : List Int) : Option ((List Int) × Bool) :=
  (s_impl_productTable p q).bind fun r4 =>
  (s_impl_productTable q p).bind fun r7 =>
  (forC (S := Unit) (R := (List Int) × Bool) (fun k51 s49 =>
  (idx r4 k51).bind fun x55 =>
  (forC (S := Unit) (R := (List Int) × Bool) (fun k76 s74 =>
  (idx x55 k76).bind fun x80 =>
  ((bif x80 then (idx r7 k51).bind fun x86 =>
  (idx x86 k76).bind fun x90 =>
  some (!x90) else some false)).bind fun s82 =>
  (bif s82 then some (.rt ([k51, k76], true)) else some (.nx ()))) 0 (x55.length : Int) ()).bind fun o78 => after o78 (fun r_ => some (.rt r_)) (fun s74 =>
  some (.nx ()))) 0 (r4.length : Int) ()).bind fun o53 => after o53 (fun r_ => some r_) (fun s49 =>
  some ([], false))
set_option maxHeartbeats 4000000 in
theorem c_impl_unpermuted {M : Nat → Prop} {w : World} {pa0 : Option Addr} {pn0 pc0 : Nat} {pa1 : Option Addr} {pn1 pc1 : Nat} (p : List Int) (q : List Int) (h0 : (RT.rs (RT.int .i64)).val M w (.slice pa0 pn0 pc0) p ([])) (h1 : (RT.rs (RT.int .i64)).val M w (.slice pa1 pn1 pc1) q ([])) (hM : ∀ g, w.heap.size ≤ g → M g) {r : (List Int) × Bool} (hs : s_impl_unpermuted p q = some r) :
    Gives Try.prog 49 [(.slice pa0 pn0 pc0), (.slice pa1 pn1 pc1)] w (fun v w' => ∃ (ra0 : Option Addr) (rn0 rc0 : Nat) (rf0 : List Nat), v = (.tuple #[(.slice ra0 rn0 rc0), (.bool r.2)]) ∧ Chg [] w w' ∧ (RT.os 3 (RT.int .i64)).val M w' (.slice ra0 rn0 rc0) r.1 rf0 ∧ Own (Nw w []) (fun _ => True) w' (rf0 ++ ([]))) := by
 refine calls_fr Try.func49 rfl Try.ntmps49 (Nat.le_of_ble_eq_true rfl) ?_
 have hO := Own.start (N := Nw w []) hM Nw.fut
 have hC := Chg.refl [] w
 unfold s_impl_unpermuted at hs
 refine wp_mono (Q := KPost (k_impl_unpermuted M w r)) ?_ (fun e a c6 h => ?_)
 rotate_left
 ·cases e
  case ret =>
   obtain ⟨σ, ra0, rn0, rc0, rf0, rfl, hrest⟩ := h
   exact ret2x Try.results49 (res_tmp rfl) (res_tmp rfl) ⟨ra0, rn0, rc0, rf0, rfl, hrest⟩
  all_goals exact (h : False).elim
 refine c_sr ?_
 refine pl_val (.slice none 0 0) (y_assign rfl) ?_
 refine pl_val (.bool false) (y_assign rfl) ?_
 refine c_nil ?_
 refine c_sr ?_
 refine pl_val (.slice pa0 pn0 pc0) (y_move rfl) ?_
 refine pl_val (.slice pa1 pn1 pc1) (y_move rfl) ?_
 obtain ⟨r4, d4, hs⟩ := bind_some hs
 refine pl_call Bd58 rfl (c_impl_productTable (M := M) p q h0 h1 hO.fut d4) ?_
 rintro _ g8 ⟨a7, a8, a9, a5, rfl, c1, a0, d5⟩
 have h0 := h0.ext c1
 have h1 := h1.ext c1
 have hC := hC.ext c1
 have hO := Own.join0 hO c1 d5
 have hO := hO.perm (R := a5 ++ ([])) (by simp)
 refine pl_val (.slice pa1 pn1 pc1) (y_move rfl) ?_
 refine pl_val (.slice pa0 pn0 pc0) (y_move rfl) ?_
 obtain ⟨r7, d6, hs⟩ := bind_some hs
 refine pl_call Bd58 rfl (c_impl_productTable (M := M) q p h1 h0 hO.fut d6) ?_
 rintro _ g9 ⟨b0, b1, b2, b3, rfl, b8, a2, d7⟩
 have h0 := h0.ext b8
 have h1 := h1.ext b8
 have a0 := a0.ext b8
 have hC := hC.ext b8
 have hO := Own.join0 hO b8 d7
 have hO := hO.perm (R := b3 ++ (a5 ++ ([]))) (by simp)
 refine pl_val (.slice a7 a8 a9) (y_assign rfl) ?_
 refine pl_val (.slice b0 b1 b2) (y_assign rfl) ?_
 refine c_nil ?_
 refine c_seq ?_
 refine c_sr ?_
 refine pl_val (.slice a7 a8 a9) (y_move rfl) ?_
 refine pl_val (.int .i64 (r4.length : Int)) (y_len' Sl71 (os_len a0) rfl) ?_
 refine pl_val (.int .i64 0) (y_move rfl) ?_
 refine c_nil ?_
 obtain ⟨o53, d8, hs⟩ := bind_some hs
 refine wp_block ?_
 refine wp_forC (id := 0) (r4.length : Int) (I := fun k51 s49 a a6 => ∃ (σ : Nat → Value), a = fr 48 (ovl σ [(7, (.slice b0 b1 b2)), (18, (.slice a7 a8 a9)), (19, (.int .i64 (r4.length : Int))), (20, (.int .i64 k51))]) ∧ Chg [] w a6 ∧ Own (Nw w []) M a6 (b3 ++ (a5 ++ [])) ∧ (RT.os 84 (RT.os 4 RT.bool)).val M a6 (.slice a7 a8 a9) r4 a5 ∧ (RT.os 84 (RT.os 4 RT.bool)).val M a6 (.slice b0 b1 b2) r7 b3) (J := fun s49 a a6 => ∃ (σ : Nat → Value), a = fr 48 (ovl σ []) ∧ Chg [] w a6 ∧ Own (Nw w []) M a6 (b3 ++ (a5 ++ [])) ∧ (RT.os 84 (RT.os 4 RT.bool)).val M a6 (.slice a7 a8 a9) r4 a5 ∧ (RT.os 84 (RT.os 4 RT.bool)).val M a6 (.slice b0 b1 b2) r7 b3) (K := (k_impl_unpermuted M w)) ?_ ?_ 0 () o53 _ _ ?_ d8 ?_
 ·rintro k51 s49 a a6 ⟨σ, rfl, hC, hO, a0, a2⟩ hlt
  refine c_sr ?_
  refine pl_val (.bool (decide (k51 < (r4.length : Int)))) (y_lss rfl rfl) ?_
  refine c_nil ?_
  refine c_seq ?_
  refine c_condF (congrArg Value.bool (decide_eq_false hlt)) ?_
  refine wp_exit ?_
  have hO := hO.fr1
  have hO := hO.fr1
  exact ⟨rfl, _, fr_ovl 48 trivial, hC, hO, a0, a2⟩
 ·rintro k51 s49 o53 a a6 ⟨σ, rfl, hC, hO, a0, a2⟩ hlt hw hs
  refine c_sr ?_
  refine pl_val (.bool (decide (k51 < (r4.length : Int)))) (y_lss rfl rfl) ?_
  refine c_nil ?_
  refine c_seq ?_
  refine c_condT (congrArg Value.bool (decide_eq_true hlt)) ?_
  refine wp_skip ?_
  refine c_seq ?_
  refine wp_block ?_
  refine c_sr ?_
  refine pl_val (.int .i64 k51) (y_move rfl) ?_
  obtain ⟨x55, d9, hs⟩ := bind_some hs
  obtain ⟨e0, h2, h3, h4, e1, e2, e3⟩ := os_idx Sl71 Sz84 a0 d9
  have e4 := own_row (Frz.os Frz.bool) e2 e3
  refine pl_val (.pointer (some ⟨e0, 0 + Int.toNat k51 * 1, none⟩)) (e1 _ _ _ _ _ _ _ _ _ rfl rfl) ?_
  obtain ⟨h5, e5, hrow57, a4⟩ := at_load1 Ag84 Sz84 rfl rfl e4
  obtain ⟨b4, b5, b6, rfl⟩ := rs_sl a4
  refine pl_val (.slice b4 b5 b6) (y_load rfl (e5 _ (Chg.refl _ _))) ?_
  refine pl_val (.int .i64 k51) (y_assign rfl) ?_
  refine pl_val (.slice b4 b5 b6) (y_assign rfl) ?_
  refine c_nil ?_
  refine c_sr ?_
  refine pl_val (.slice b4 b5 b6) (y_move rfl) ?_
  refine pl_val (.int .i64 (x55.length : Int)) (y_len' Sl84 (rs_len a4) rfl) ?_
  refine pl_val (.int .i64 0) (y_move rfl) ?_
  refine c_nil ?_
  obtain ⟨o78, e6, hs⟩ := bind_some hs
  refine wp_block ?_
  refine wp_forC (id := 2) (x55.length : Int) (I := fun k76 s74 a a3 => ∃ (σ : Nat → Value), a = fr 48 (ovl σ [(7, (.slice b0 b1 b2)), (8, (.int .i64 k51)), (18, (.slice a7 a8 a9)), (19, (.int .i64 (r4.length : Int))), (20, (.int .i64 k51)), (25, (.slice b4 b5 b6)), (26, (.int .i64 (x55.length : Int))), (27, (.int .i64 k76))]) ∧ Chg [] w a3 ∧ Own (Nw w []) M a3 (b3 ++ (a5 ++ [])) ∧ (RT.os 84 (RT.os 4 RT.bool)).val M a3 (.slice a7 a8 a9) r4 a5 ∧ (RT.os 84 (RT.os 4 RT.bool)).val M a3 (.slice b0 b1 b2) r7 b3 ∧ (RT.rs RT.bool).val (Less M a5) a3 (.slice b4 b5 b6) x55 ([])) (J := fun s74 a a3 => ∃ (σ : Nat → Value), a = fr 48 (ovl σ [(7, (.slice b0 b1 b2)), (18, (.slice a7 a8 a9)), (19, (.int .i64 (r4.length : Int))), (20, (.int .i64 k51))]) ∧ Chg [] w a3 ∧ Own (Nw w []) M a3 (b3 ++ (a5 ++ [])) ∧ (RT.os 84 (RT.os 4 RT.bool)).val M a3 (.slice a7 a8 a9) r4 a5 ∧ (RT.os 84 (RT.os 4 RT.bool)).val M a3 (.slice b0 b1 b2) r7 b3 ∧ (RT.rs RT.bool).val (Less M a5) a3 (.slice b4 b5 b6) x55 ([])) (K := (k_impl_unpermuted M w)) ?_ ?_ 0 () o78 _ _ ?_ e6 ?_
  ·rintro k76 s74 a a3 ⟨σ, rfl, hC, hO, a0, a2, a4⟩ hlt
   refine c_sr ?_
   refine pl_val (.bool (decide (k76 < (x55.length : Int)))) (y_lss rfl rfl) ?_
   refine c_nil ?_
   refine c_seq ?_
   refine c_condF (congrArg Value.bool (decide_eq_false hlt)) ?_
   refine wp_exit ?_
   have hO := hO.fr1
   have hO := hO.fr1
   exact ⟨rfl, _, fr_ovl 48 ⟨rfl, rfl, rfl, rfl, trivial⟩, hC, hO, a0, a2, a4⟩
  ·rintro k76 s74 o78 a a3 ⟨σ, rfl, hC, hO, a0, a2, a4⟩ hlt hw hs
   refine c_sr ?_
   refine pl_val (.bool (decide (k76 < (x55.length : Int)))) (y_lss rfl rfl) ?_
   refine c_nil ?_
   refine c_seq ?_
   refine c_condT (congrArg Value.bool (decide_eq_true hlt)) ?_
   refine wp_skip ?_
   refine c_seq ?_
   refine wp_block ?_
   refine c_sr ?_
   refine pl_val (.int .i64 k76) (y_move rfl) ?_
   obtain ⟨x80, e7, hs⟩ := bind_some hs
   obtain ⟨e8, e9, f0, f1⟩ := rs_idx Sl84 Sz4 a4 e7
   refine pl_val (.pointer (some ⟨e8, e9, none⟩)) (f0 _ _ _ _ _ _ _ _ _ rfl rfl) ?_
   refine pl_val (.bool x80) (y_load rfl ((at_load_bool Ag4 Sz4 f1) _ (Chg.refl _ _))) ?_
   refine pl_val (.int .i64 k76) (y_assign rfl) ?_
   refine pl_val (.bool x80) (y_assign rfl) ?_
   refine c_nil ?_
   refine c_seq ?_
   obtain ⟨s82, f2, hs⟩ := bind_some hs
   refine c_mid (I := fun a c3 => ∃ (σ : Nat → Value), a = fr 48 (ovl σ [(7, (.slice b0 b1 b2)), (8, (.int .i64 k51)), (10, (.int .i64 k76)), (18, (.slice a7 a8 a9)), (19, (.int .i64 (r4.length : Int))), (20, (.int .i64 k51)), (25, (.slice b4 b5 b6)), (26, (.int .i64 (x55.length : Int))), (27, (.int .i64 k76)), (42, (.bool s82))]) ∧ Chg [] a3 c3) ?_ ?_
   ·replace hs := f2
    have hMid := Chg.refl [] a3
    refine c_region ?_
    refine pl_val (.bool x80) (y_move rfl) ?_
    refine pl_val (.bool x80) (y_move rfl) ?_
    rcases bif_some hs with ⟨a1, hs⟩ | ⟨a1, hs⟩
    ·skip
     refine pl_yes (.slice b0 b1 b2) (tg := 33) (by kernel_rfl) (congrArg Value.bool a1) (y_move rfl) ?_
     refine pl_yes (.int .i64 k51) (tg := 33) (by kernel_rfl) (congrArg Value.bool a1) (y_move rfl) ?_
     obtain ⟨x86, c7, hs⟩ := bind_some hs
     obtain ⟨f3, h6, f4, h7, f5, f6, f7⟩ := os_idx Sl71 Sz84 a2 c7
     have f8 := own_row (Frz.os Frz.bool) f6 f7
     refine pl_yes (.pointer (some ⟨f3, 0 + Int.toNat k51 * 1, none⟩)) (tg := 33) (by kernel_rfl) (congrArg Value.bool a1) (f5 _ _ _ _ _ _ _ _ _ rfl rfl) ?_
     obtain ⟨h8, f9, hrow88, g0⟩ := at_load1 Ag84 Sz84 rfl rfl f8
     obtain ⟨c8, c9, d0, rfl⟩ := rs_sl g0
     refine pl_yes (.slice c8 c9 d0) (tg := 33) (by kernel_rfl) (congrArg Value.bool a1) (y_load rfl (f9 _ (Chg.refl _ _))) ?_
     refine pl_yes (.int .i64 k76) (tg := 33) (by kernel_rfl) (congrArg Value.bool a1) (y_move rfl) ?_
     obtain ⟨x90, g1, hs⟩ := bind_some hs
     obtain ⟨g2, g3, h9, _, _⟩ := os_put f4 a2 c7 hrow88 rfl hO.inM
     obtain ⟨g4, i0, i1, i2, g5, g6, i3⟩ := os_idx Sl84 Sz4 (show (RT.os 4 RT.bool).val M a3 (.slice c8 c9 d0) _ g2 from ⟨[_], rfl, g3⟩) g1
     refine pl_yes (.pointer (some ⟨g4, 0 + Int.toNat k76 * 1, none⟩)) (tg := 33) (by kernel_rfl) (congrArg Value.bool a1) (g5 _ _ _ _ _ _ _ _ _ rfl rfl) ?_
     refine pl_yes (.bool x90) (tg := 33) (by kernel_rfl) (congrArg Value.bool a1) (y_load rfl ((at_load_bool Ag4 Sz4 g6) _ (Chg.refl _ _))) ?_
     refine pl_yes (.bool (!x90)) (tg := 33) (by kernel_rfl) (congrArg Value.bool a1) (y_not rfl) ?_
     refine pl_val (.bool (!x90)) (y_pick_t (congrArg Value.bool a1) rfl) ?_
     refine c_nil ?_
     cases hs
     exact ⟨_, fr_ovl 48 ⟨rfl, rfl, rfl, rfl, rfl, rfl, rfl, rfl, rfl, rfl, trivial⟩, hMid⟩
    refine pl_not (tg := 33) (by kernel_rfl) (congrArg Value.bool a1) ?_
    refine pl_not (tg := 33) (by kernel_rfl) (congrArg Value.bool a1) ?_
    refine pl_not (tg := 33) (by kernel_rfl) (congrArg Value.bool a1) ?_
    refine pl_not (tg := 33) (by kernel_rfl) (congrArg Value.bool a1) ?_
    refine pl_not (tg := 33) (by kernel_rfl) (congrArg Value.bool a1) ?_
    refine pl_not (tg := 33) (by kernel_rfl) (congrArg Value.bool a1) ?_
    refine pl_not (tg := 33) (by kernel_rfl) (congrArg Value.bool a1) ?_
    refine pl_not (tg := 33) (by kernel_rfl) (congrArg Value.bool a1) ?_
    refine pl_val (.bool false) (y_pick_f (congrArg Value.bool a1) rfl) ?_
    refine c_nil ?_
    cases hs
    exact ⟨_, fr_ovl 48 ⟨rfl, rfl, rfl, rfl, rfl, rfl, rfl, rfl, rfl, rfl, trivial⟩, hMid⟩
   rintro c2 c3 ⟨σ, rfl, b9⟩
   have a0 := a0.ext b9
   have a2 := a2.ext b9
   have a4 := a4.ext b9
   have hC := hC.ext b9
   have hO := hO.ext b9
   rcases bif_some hs with ⟨c4, hs⟩ | ⟨c4, hs⟩
   ·refine c_condT (congrArg Value.bool c4) ?_
    refine c_sr ?_
    refine pl_val (.int .i64 k51) (y_move rfl) ?_
    refine pl_val (.int .i64 k76) (y_move rfl) ?_
    obtain ⟨d1, b7, g7, d2, c0, d3⟩ := new_block c3 [(.int .i64 k51), (.int .i64 k76)] 3
    refine pl_val (w' := d1) (.slice (some ⟨b7, 0, none⟩) 2 2) (y_bslice rfl (by rw [g7, d2]; kernel_rfl)) ?_
    have a0 := a0.ext c0
    have a2 := a2.ext c0
    have a4 := a4.ext c0
    have hC := hC.ext c0
    have hO := hO.new1 c0 d2 d3.lt
    have c5 := os_of_box (r := (RT.int .i64)) (M := M) (css := [[(.int .i64 k51)], [(.int .i64 k76)]]) (fps := [([] : List Nat), ([] : List Nat)]) (xs := ([k51, k76] : List Int)) d3 ⟨⟨rfl, rfl⟩, ⟨⟨rfl, rfl⟩, trivial⟩⟩ (Nat.le_of_ble_eq_true rfl) (List.nodup_cons.2 ⟨(fun h => nomatch h), List.nodup_nil⟩)
    have c5 : (RT.os 3 (RT.int .i64)).val M d1 (.slice (some ⟨b7, 0, none⟩) 2 2) [k51, k76] [b7] := c5
    refine pl_val (.slice (some ⟨b7, 0, none⟩) 2 2) (y_assign rfl) ?_
    refine pl_val (.bool true) (y_assign rfl) ?_
    refine c_nil ?_
    refine wp_ret ?_
    cases hs
    have hO := hO.fr1
    have hO := hO.drop
    have hO := hO.fr1
    have hO := hO.drop
    exact ⟨_, (some ⟨b7, 0, none⟩), 2, 2, ([b7]), fr_ovl 48 ⟨rfl, rfl, trivial⟩, hC, c5, hO.top⟩
   refine c_condF (congrArg Value.bool c4) ?_
   refine wp_skip ?_
   refine c_region ?_
   refine pl_val (.int .i64 (w64 (k76 + 1))) (y_add rfl rfl) ?_
   refine pl_val (.int .i64 (w64 (k76 + 1))) (y_move rfl) ?_
   refine c_nil ?_
   cases hs
   have hO := hO.fr1
   have hO := hO.fr1
   exact ⟨_, fr_ovl 48 ⟨rfl, rfl, rfl, rfl, rfl, rfl, rfl, congrArg (Value.int .i64) hw, trivial⟩, hC, hO, a0, a2, a4⟩
  ·skip
   have hO := hO.fr1
   have hO := hO.fr1
   exact ⟨_, fr_ovl 48 ⟨rfl, rfl, rfl, rfl, rfl, rfl, rfl, rfl, trivial⟩, hC, hO, a0, a2, a4⟩
  cases o78 with
  | nx _ => exact True.intro
  | rt r_ =>
   have hs := after_rt hs
   intro c2 c6 hK
   cases hs
   exact hK
  | br s74 =>
   have hs := after_br hs
   rintro c2 a3 ⟨σ, rfl, hC, hO, a0, a2, a4⟩
   refine c_region ?_
   refine pl_val (.int .i64 (w64 (k51 + 1))) (y_add rfl rfl) ?_
   refine pl_val (.int .i64 (w64 (k51 + 1))) (y_move rfl) ?_
   refine c_nil ?_
   cases hs
   have hO := hO.fr1
   have hO := hO.fr1
   exact ⟨_, fr_ovl 48 ⟨rfl, rfl, rfl, congrArg (Value.int .i64) hw, trivial⟩, hC, hO, a0, a2⟩
 ·skip
  have hO := hO.fr1
  have hO := hO.fr1
  exact ⟨_, fr_ovl 48 ⟨rfl, rfl, rfl, rfl, trivial⟩, hC, hO, a0, a2⟩
 cases o53 with
 | nx _ => exact True.intro
 | rt r_ =>
  have hs := after_rt hs
  intro c2 c6 hK
  cases hs
  exact hK
 | br s49 =>
  have hs := after_br hs
  rintro c2 a6 ⟨σ, rfl, hC, hO, a0, a2⟩
  refine c_sr ?_
  refine pl_val (.slice none 0 0) (y_assign rfl) ?_
  refine pl_val (.bool false) (y_assign rfl) ?_
  refine c_nil ?_
  refine wp_ret ?_
  cases hs
  have hO := hO.drop
  have hO := hO.drop
  have hO := hO.nil
  exact ⟨_, none, 0, 0, [], fr_ovl 48 ⟨rfl, rfl, trivial⟩, hC, os_nil, hO.top⟩

theorem Bd48 : Bodied Try.prog 48 := bodied Try.func48 (by kernel_rfl) rfl

theorem Bd49 : Bodied Try.prog 49 := bodied Try.func49 (by kernel_rfl) rfl

def k_impl_FirstUnpermuted (M : Nat → Prop) (w0 : World) (r : (List Int) × Bool) (a : Act) (w : World) : Prop :=
  ∃ (σ : Nat → Value) (ra0 : Option Addr) (rn0 rc0 : Nat) (rf0 : List Nat), a = fr 26 (ovl σ [(6, (.slice ra0 rn0 rc0)), (7, (.bool r.2))]) ∧ Chg [] w0 w ∧ (RT.os 3 (RT.int .i64)).val M w (.slice ra0 rn0 rc0) r.1 rf0 ∧ Own (Nw w0 []) (fun _ => True) w (rf0 ++ ([]))
def s_impl_FirstUnpermuted (n : Int) (p : List Int) (q : List Int) : Option ((List Int) × Bool) :=
  (s_impl_arePartitions n p q).bind fun r4 =>
  (bif (!r4) then some ([], false) else (s_impl_unpermuted p q).bind fun r9 =>
  (bif (!r9.2) then some ([], false) else some (r9.1, true)))
set_option maxHeartbeats 4000000 in
theorem c_impl_FirstUnpermuted {M : Nat → Prop} {w : World} {pa0 : Option Addr} {pn0 pc0 : Nat} {pa1 : Option Addr} {pn1 pc1 : Nat} (n : Int) (p : List Int) (q : List Int) (h0 : (RT.rs (RT.int .i64)).val M w (.slice pa0 pn0 pc0) p ([])) (h1 : (RT.rs (RT.int .i64)).val M w (.slice pa1 pn1 pc1) q ([])) (hM : ∀ g, w.heap.size ≤ g → M g) {r : (List Int) × Bool} (hs : s_impl_FirstUnpermuted n p q = some r) :
    Gives Try.prog 20 [(.int .i64 n), (.slice pa0 pn0 pc0), (.slice pa1 pn1 pc1)] w (fun v w' => ∃ (ra0 : Option Addr) (rn0 rc0 : Nat) (rf0 : List Nat), v = (.tuple #[(.slice ra0 rn0 rc0), (.bool r.2)]) ∧ Chg [] w w' ∧ (RT.os 3 (RT.int .i64)).val M w' (.slice ra0 rn0 rc0) r.1 rf0 ∧ Own (Nw w []) (fun _ => True) w' (rf0 ++ ([]))) := by
 refine calls_fr Try.func20 rfl Try.ntmps20 (Nat.le_of_ble_eq_true rfl) ?_
 have hO := Own.start (N := Nw w []) hM Nw.fut
 have hC := Chg.refl [] w
 unfold s_impl_FirstUnpermuted at hs
 refine wp_mono (Q := KPost (k_impl_FirstUnpermuted M w r)) ?_ (fun e a c8 h => ?_)
 rotate_left
 ·cases e
  case ret =>
   obtain ⟨σ, ra0, rn0, rc0, rf0, rfl, hrest⟩ := h
   exact ret2x Try.results20 (res_tmp rfl) (res_tmp rfl) ⟨ra0, rn0, rc0, rf0, rfl, hrest⟩
  all_goals exact (h : False).elim
 refine c_sr ?_
 refine pl_val (.slice none 0 0) (y_assign rfl) ?_
 refine pl_val (.bool false) (y_assign rfl) ?_
 refine c_nil ?_
 refine c_seq ?_
 refine c_sr ?_
 refine pl_val (.int .i64 n) (y_move rfl) ?_
 refine pl_val (.slice pa0 pn0 pc0) (y_move rfl) ?_
 refine pl_val (.slice pa1 pn1 pc1) (y_move rfl) ?_
 obtain ⟨r4, c1, hs⟩ := bind_some hs
 refine pl_call Bd48 rfl (c_impl_arePartitions (M := M) n p q h0 h1 hO.fut c1) ?_
 rintro _ c2 ⟨rfl, a5⟩
 have h0 := h0.ext a5
 have h1 := h1.ext a5
 have hC := hC.ext a5
 have hO := hO.ext a5
 refine pl_val (.bool (!r4)) (y_not rfl) ?_
 refine c_nil ?_
 rcases bif_some hs with ⟨a8, hs⟩ | ⟨a8, hs⟩
 ·refine c_condT (congrArg Value.bool a8) ?_
  refine c_sr ?_
  obtain ⟨b4, a0, c3, b5, a6, b6⟩ := new_block c2 [] 3
  refine pl_val (w' := b4) (.slice (some ⟨a0, 0, none⟩) 0 0) (y_bslice rfl (by rw [c3, b5]; kernel_rfl)) ?_
  have h0 := h0.ext a6
  have h1 := h1.ext a6
  have hC := hC.ext a6
  have hO := hO.new1 a6 b5 b6.lt
  have a9 := os_of_box (r := (RT.int .i64)) (M := M) (css := []) (fps := []) (xs := ([] : List Int)) b6 trivial (Nat.zero_le _) (List.nodup_cons.2 ⟨(fun h => nomatch h), List.nodup_nil⟩)
  have a9 : (RT.os 3 (RT.int .i64)).val M b4 (.slice (some ⟨a0, 0, none⟩) 0 0) [] [a0] := a9
  refine pl_val (.slice (some ⟨a0, 0, none⟩) 0 0) (y_assign rfl) ?_
  refine pl_val (.bool false) (y_assign rfl) ?_
  refine c_nil ?_
  refine wp_ret ?_
  cases hs
  exact ⟨_, (some ⟨a0, 0, none⟩), 0, 0, ([a0]), fr_ovl 26 ⟨rfl, rfl, trivial⟩, hC, a9, hO.top⟩
 refine c_condF (congrArg Value.bool a8) ?_
 refine wp_skip ?_
 refine c_sr ?_
 refine pl_val (.slice pa0 pn0 pc0) (y_move rfl) ?_
 refine pl_val (.slice pa1 pn1 pc1) (y_move rfl) ?_
 obtain ⟨r9, c4, hs⟩ := bind_some hs
 refine pl_call Bd49 rfl (c_impl_unpermuted (M := M) p q h0 h1 hO.fut c4) ?_
 rintro _ c5 ⟨a1, a2, a3, b7, rfl, a7, b0, c6⟩
 have h0 := h0.ext a7
 have h1 := h1.ext a7
 have hC := hC.ext a7
 have hO := Own.join0 hO a7 c6
 have hO := hO.perm (R := b7 ++ ([])) (by simp)
 refine pl_val (.tuple #[(.slice a1 a2 a3), (.bool r9.2)]) (y_move rfl) ?_
 refine pl_val (.slice a1 a2 a3) (y_extract rfl (by kernel_rfl)) ?_
 refine pl_val (.bool r9.2) (y_extract rfl (by kernel_rfl)) ?_
 refine pl_val (.slice a1 a2 a3) (y_assign rfl) ?_
 refine pl_val (.bool r9.2) (y_assign rfl) ?_
 refine c_nil ?_
 refine c_seq ?_
 refine c_sr ?_
 refine pl_val (.bool r9.2) (y_move rfl) ?_
 refine pl_val (.bool (!r9.2)) (y_not rfl) ?_
 refine c_nil ?_
 rcases bif_some hs with ⟨b1, hs⟩ | ⟨b1, hs⟩
 ·refine c_condT (congrArg Value.bool b1) ?_
  refine c_sr ?_
  obtain ⟨b8, a4, c7, b9, b2, c0⟩ := new_block c5 [] 3
  refine pl_val (w' := b8) (.slice (some ⟨a4, 0, none⟩) 0 0) (y_bslice rfl (by rw [c7, b9]; kernel_rfl)) ?_
  have b0 := b0.ext b2
  have hC := hC.ext b2
  have hO := hO.new1 b2 b9 c0.lt
  have b3 := os_of_box (r := (RT.int .i64)) (M := M) (css := []) (fps := []) (xs := ([] : List Int)) c0 trivial (Nat.zero_le _) (List.nodup_cons.2 ⟨(fun h => nomatch h), List.nodup_nil⟩)
  have b3 : (RT.os 3 (RT.int .i64)).val M b8 (.slice (some ⟨a4, 0, none⟩) 0 0) [] [a4] := b3
  refine pl_val (.slice (some ⟨a4, 0, none⟩) 0 0) (y_assign rfl) ?_
  refine pl_val (.bool false) (y_assign rfl) ?_
  refine c_nil ?_
  refine wp_ret ?_
  cases hs
  have hO := hO.fr1
  have hO := hO.drop
  exact ⟨_, (some ⟨a4, 0, none⟩), 0, 0, ([a4]), fr_ovl 26 ⟨rfl, rfl, trivial⟩, hC, b3, hO.top⟩
 refine c_condF (congrArg Value.bool b1) ?_
 refine wp_skip ?_
 refine c_sr ?_
 refine pl_val (.slice a1 a2 a3) (y_move rfl) ?_
 refine pl_val (.slice a1 a2 a3) (y_assign rfl) ?_
 refine pl_val (.bool true) (y_assign rfl) ?_
 refine c_nil ?_
 refine wp_ret ?_
 cases hs
 exact ⟨_, a1, a2, a3, b7, fr_ovl 26 ⟨rfl, rfl, trivial⟩, hC, b0, hO.top⟩

def k_spec_l16Two (M : Nat → Prop) (w0 : World) (r : Bool) (a : Act) (w : World) : Prop :=
  ∃ (σ : Nat → Value) , a = fr 19 (ovl σ [(6, (.bool r))]) ∧ Chg [] w0 w
def s_spec_l16Two (n : Int) (p : List Int) (q : List Int) : Option (Bool) :=
  (s_spec_l6Size n).bind fun r4 =>
  (bif r4 then (s_spec_l6Partition n p).bind fun r7 =>
  (bif r7 then (s_spec_l6Partition n q).bind fun r10 =>
  some r10 else some false) else some false)
set_option maxHeartbeats 4000000 in
theorem c_spec_l16Two {M : Nat → Prop} {w : World} {pa0 : Option Addr} {pn0 pc0 : Nat} {pa1 : Option Addr} {pn1 pc1 : Nat} (n : Int) (p : List Int) (q : List Int) (h0 : (RT.rs (RT.int .i64)).val M w (.slice pa0 pn0 pc0) p ([])) (h1 : (RT.rs (RT.int .i64)).val M w (.slice pa1 pn1 pc1) q ([])) (hM : ∀ g, w.heap.size ≤ g → M g) {r : Bool} (hs : s_spec_l16Two n p q = some r) :
    Gives Try.prog 50 [(.int .i64 n), (.slice pa0 pn0 pc0), (.slice pa1 pn1 pc1)] w (fun v w' => v = (.bool r) ∧ Chg [] w w') := by
 refine calls_fr Try.func50 rfl Try.ntmps50 (Nat.le_of_ble_eq_true rfl) ?_
 have hO := Own.start (N := Nw w []) hM Nw.fut
 have hC := Chg.refl [] w
 unfold s_spec_l16Two at hs
 refine wp_mono (Q := KPost (k_spec_l16Two M w r)) ?_ (fun e a a8 h => ?_)
 rotate_left
 ·cases e
  case ret =>
   obtain ⟨σ, rfl, hrest⟩ := h
   exact ret1x Try.results50 (res_tmp rfl) ⟨rfl, hrest⟩
  all_goals exact (h : False).elim
 refine c_sr ?_
 refine pl_val (.bool false) (y_assign rfl) ?_
 refine c_nil ?_
 refine c_sr ?_
 refine pl_val (.int .i64 n) (y_move rfl) ?_
 obtain ⟨r4, a5, hs⟩ := bind_some hs
 refine pl_call Bd34 rfl (c_spec_l6Size (M := M) n  hO.fut a5) ?_
 rintro _ a9 ⟨rfl, a2⟩
 have h0 := h0.ext a2
 have h1 := h1.ext a2
 have hC := hC.ext a2
 have hO := hO.ext a2
 refine pl_val (.bool r4) (y_move rfl) ?_
 rcases bif_some hs with ⟨a0, hs⟩ | ⟨a0, hs⟩
 ·skip
  refine pl_yes (.int .i64 n) (tg := 9) (by kernel_rfl) (congrArg Value.bool a0) (y_move rfl) ?_
  refine pl_yes (.slice pa0 pn0 pc0) (tg := 9) (by kernel_rfl) (congrArg Value.bool a0) (y_move rfl) ?_
  obtain ⟨r7, a6, hs⟩ := bind_some hs
  refine pl_cally (tg := 9) (by kernel_rfl) (congrArg Value.bool a0) Bd78 rfl (c_spec_l6Partition (M := M) n p h0 hO.fut a6) ?_
  rintro _ b0 ⟨rfl, a3⟩
  have h0 := h0.ext a3
  have h1 := h1.ext a3
  have hC := hC.ext a3
  have hO := hO.ext a3
  refine pl_val (.bool r7) (y_pick_t (congrArg Value.bool a0) rfl) ?_
  refine pl_val (.bool r7) (y_move rfl) ?_
  rcases bif_some hs with ⟨a1, hs⟩ | ⟨a1, hs⟩
  ·skip
   refine pl_yes (.int .i64 n) (tg := 14) (by kernel_rfl) (congrArg Value.bool a1) (y_move rfl) ?_
   refine pl_yes (.slice pa1 pn1 pc1) (tg := 14) (by kernel_rfl) (congrArg Value.bool a1) (y_move rfl) ?_
   obtain ⟨r10, a7, hs⟩ := bind_some hs
   refine pl_cally (tg := 14) (by kernel_rfl) (congrArg Value.bool a1) Bd78 rfl (c_spec_l6Partition (M := M) n q h1 hO.fut a7) ?_
   rintro _ b1 ⟨rfl, a4⟩
   have h0 := h0.ext a4
   have h1 := h1.ext a4
   have hC := hC.ext a4
   have hO := hO.ext a4
   refine pl_val (.bool r10) (y_pick_t (congrArg Value.bool a1) rfl) ?_
   refine pl_val (.bool r10) (y_assign rfl) ?_
   refine c_nil ?_
   refine wp_ret ?_
   cases hs
   exact ⟨_, fr_ovl 19 ⟨rfl, trivial⟩, hC⟩
  refine pl_not (tg := 14) (by kernel_rfl) (congrArg Value.bool a1) ?_
  refine pl_not (tg := 14) (by kernel_rfl) (congrArg Value.bool a1) ?_
  refine pl_not (tg := 14) (by kernel_rfl) (congrArg Value.bool a1) ?_
  refine pl_val (.bool false) (y_pick_f (congrArg Value.bool a1) rfl) ?_
  refine pl_val (.bool false) (y_assign rfl) ?_
  refine c_nil ?_
  refine wp_ret ?_
  cases hs
  exact ⟨_, fr_ovl 19 ⟨rfl, trivial⟩, hC⟩
 refine pl_not (tg := 9) (by kernel_rfl) (congrArg Value.bool a0) ?_
 refine pl_not (tg := 9) (by kernel_rfl) (congrArg Value.bool a0) ?_
 refine pl_not (tg := 9) (by kernel_rfl) (congrArg Value.bool a0) ?_
 refine pl_val (.bool false) (y_pick_f (congrArg Value.bool a0) rfl) ?_
 refine pl_val (.bool false) (y_move rfl) ?_
 refine pl_not (tg := 14) (by kernel_rfl) (by rfl) ?_
 refine pl_not (tg := 14) (by kernel_rfl) (by rfl) ?_
 refine pl_not (tg := 14) (by kernel_rfl) (by rfl) ?_
 refine pl_val (.bool false) (y_pick_f (by rfl) rfl) ?_
 refine pl_val (.bool false) (y_assign rfl) ?_
 refine c_nil ?_
 refine wp_ret ?_
 cases hs
 exact ⟨_, fr_ovl 19 ⟨rfl, trivial⟩, hC⟩

end Go.Proofs
