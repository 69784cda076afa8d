/- What functions of the program compute, as plain functions, and that a call gives just that. Conditions: those named in each theorem. -/
import Derived.Test.YtbicnacclhhlkaaF0
set_option linter.unusedVariables false
namespace Go.Proofs
open Go.G Go.RowKit
set_option maxRecDepth 100000

def k_spec_l19Most (M : Nat → Prop) (w0 : World) (r : (List (List ((List Int) × (Int × (List (List Int))))))) (a : Act) (w : World) : Prop :=
  ∃ (σ : Nat → Value) (ra0 : Option Addr) (rn0 rc0 : Nat), a = fr 51 (ovl σ [(4, (.slice ra0 rn0 rc0))]) ∧ Chg [] w0 w ∧ (RT.rs (RT.rs (RT.pr (RT.rs (RT.int .i64)) (RT.pr (RT.int .i64) (RT.rs (RT.rs (RT.int .i64))))))).val (Past M w0 w) w (.slice ra0 rn0 rc0) r []
def s_spec_l19Most (vars : Int) (list : List ((List Int) × (Int × (List (List Int))))) : Option ((List (List ((List Int) × (Int × (List (List Int))))))) :=
  (mks vars ([] : List ((List Int) × (Int × (List (List Int)))))).bind fun y3 =>
  (forC (S := (List (List ((List Int) × (Int × (List (List Int))))))) (R := (List (List ((List Int) × (Int × (List (List Int))))))) (fun k116 s114 =>
  (iter (S := Int × Int) (R := (List (List ((List Int) × (Int × (List (List Int))))))) (fun s137 =>
  (idx list k116).bind fun x143 =>
  (bif (decide (s137.2 < (x143.1.length : Int))) then (idx list k116).bind fun x149 =>
  (idx x149.1 s137.2).bind fun x154 =>
  (s_spec_l1Most s137.1 x154).bind fun r157 =>
  some (.nx (r157, w64 (s137.2 + 1))) else some (.br (s137.1, s137.2)))) FU (0, 0)).bind fun o141 => after o141 (fun r_ => some (.rt r_)) (fun s137 =>
  (idx s114 s137.1).bind fun x159 =>
  (idx list k116).bind fun x163 =>
  (app x159 ([(x163.1, (x163.2.1, x163.2.2))])).bind fun y172 =>
  some (.nx (List.set s114 (Int.toNat s137.1) y172)))) 0 (list.length : Int) y3).bind fun o118 => after o118 (fun r_ => some r_) (fun s114 =>
  some s114)
set_option maxHeartbeats 4000000 in
theorem c_spec_l19Most {M : Nat → Prop} {w : World} {pa0 : Option Addr} {pn0 pc0 : Nat} (vars : Int) (list : List ((List Int) × (Int × (List (List Int))))) (h0 : (RT.rs (RT.pr (RT.rs (RT.int .i64)) (RT.pr (RT.int .i64) (RT.rs (RT.rs (RT.int .i64)))))).val M w (.slice pa0 pn0 pc0) list ([])) (hM : ∀ g, w.heap.size ≤ g → M g) {r : (List (List ((List Int) × (Int × (List (List Int))))))} (hs : s_spec_l19Most vars list = some r) :
    Gives Try.prog 102 [(.int .i64 vars), (.slice pa0 pn0 pc0)] w (fun v w' => ∃ (ra0 : Option Addr) (rn0 rc0 : Nat), v = (.slice ra0 rn0 rc0) ∧ Chg [] w w' ∧ (RT.rs (RT.rs (RT.pr (RT.rs (RT.int .i64)) (RT.pr (RT.int .i64) (RT.rs (RT.rs (RT.int .i64))))))).val (Past M w w') w' (.slice ra0 rn0 rc0) r []) := by
 refine calls_fr Try.func102 rfl Try.ntmps102 (Nat.le_of_ble_eq_true rfl) ?_
 have hO := Own.start (N := Nw w []) hM Nw.fut
 have hC := Chg.refl [] w
 unfold s_spec_l19Most at hs
 refine wp_mono (Q := KPost (k_spec_l19Most M w r)) ?_ (fun e a d9 h => ?_)
 rotate_left
 ·cases e
  case ret =>
   obtain ⟨σ, ra0, rn0, rc0, rfl, hrest⟩ := h
   exact ret1x Try.results102 (res_tmp rfl) ⟨ra0, rn0, rc0, rfl, hrest⟩
  all_goals exact (h : False).elim
 refine c_sr ?_
 refine pl_val (.slice none 0 0) (y_assign rfl) ?_
 refine c_nil ?_
 refine c_sr ?_
 refine pl_val (.int .i64 vars) (y_move rfl) ?_
 obtain ⟨y3, f4, hs⟩ := bind_some hs
 obtain ⟨a0, a1, a2, f5, f6, f7, c0, f8, c1⟩ := mk_os (M := M) (w := w) (r := (RT.os 56 (RT.pr (RT.rs (RT.int .i64)) (RT.pr (RT.int .i64) (RT.rs (RT.rs (RT.int .i64))))))) Rw117 f4 (fun _ _ => (os_unval os_nil))
 refine pl_val (w' := f5) (.slice a0 a1 a2) (y_make rfl rfl f7) ?_
 have h0 := h0.ext c0
 have hC := hC.ext c0
 have hO := hO.new c0 f8 (os_nodup c1) c1.fpl
 refine pl_val (.slice a0 a1 a2) (y_assign rfl) ?_
 refine c_nil ?_
 refine c_seq ?_
 refine c_sr ?_
 refine pl_val (.int .i64 0) (y_assign rfl) ?_
 refine c_nil ?_
 obtain ⟨o118, f9, hs⟩ := bind_some hs
 refine wp_block ?_
 refine wp_forC (id := 0) (list.length : Int) (I := fun k116 s114 a a5 => ∃ (σ : Nat → Value) (a7 : List Nat), a = fr 51 (ovl σ [(1, (.slice pa0 pn0 pc0)), (5, (.slice a0 a1 a2)), (6, (.int .i64 k116))]) ∧ Chg [] w a5 ∧ Own (Nw w []) M a5 (a7 ++ []) ∧ (RT.rs (RT.pr (RT.rs (RT.int .i64)) (RT.pr (RT.int .i64) (RT.rs (RT.rs (RT.int .i64)))))).val M a5 (.slice pa0 pn0 pc0) list ([]) ∧ (RT.os 28 (RT.os 56 (RT.pr (RT.rs (RT.int .i64)) (RT.pr (RT.int .i64) (RT.rs (RT.rs (RT.int .i64))))))).val M a5 (.slice a0 a1 a2) s114 a7) (J := fun s114 a a5 => ∃ (σ : Nat → Value) (c2 : List Nat), a = fr 51 (ovl σ [(5, (.slice a0 a1 a2))]) ∧ Chg [] w a5 ∧ Own (Nw w []) M a5 (c2 ++ []) ∧ (RT.rs (RT.pr (RT.rs (RT.int .i64)) (RT.pr (RT.int .i64) (RT.rs (RT.rs (RT.int .i64)))))).val M a5 (.slice pa0 pn0 pc0) list ([]) ∧ (RT.os 28 (RT.os 56 (RT.pr (RT.rs (RT.int .i64)) (RT.pr (RT.int .i64) (RT.rs (RT.rs (RT.int .i64))))))).val M a5 (.slice a0 a1 a2) s114 c2) (K := (k_spec_l19Most M w)) ?_ ?_ 0 y3 o118 _ _ ?_ f9 ?_
 ·rintro k116 s114 a a5 ⟨σ, a7, rfl, hC, hO, h0, a3⟩ hlt
  refine c_seq ?_
  refine c_sr ?_
  refine pl_val (.int .i64 k116) (y_move rfl) ?_
  refine pl_val (.slice pa0 pn0 pc0) (y_move rfl) ?_
  refine pl_val (.int .i64 (list.length : Int)) (y_len' Sl28 (rs_len h0) rfl) ?_
  refine pl_val (.bool (decide (k116 < (list.length : Int)))) (y_lss rfl rfl) ?_
  refine c_nil ?_
  refine c_condF (congrArg Value.bool (decide_eq_false hlt)) ?_
  refine wp_exit ?_
  exact ⟨rfl, _, a7, fr_ovl 51 ⟨rfl, trivial⟩, hC, hO, h0, a3⟩
 ·rintro k116 s114 o118 a a5 ⟨σ, a7, rfl, hC, hO, h0, a3⟩ hlt hw hs
  refine c_seq ?_
  refine c_sr ?_
  refine pl_val (.int .i64 k116) (y_move rfl) ?_
  refine pl_val (.slice pa0 pn0 pc0) (y_move rfl) ?_
  refine pl_val (.int .i64 (list.length : Int)) (y_len' Sl28 (rs_len h0) rfl) ?_
  refine pl_val (.bool (decide (k116 < (list.length : Int)))) (y_lss rfl rfl) ?_
  refine c_nil ?_
  refine c_condT (congrArg Value.bool (decide_eq_true hlt)) ?_
  refine wp_skip ?_
  refine c_seq ?_
  refine wp_block ?_
  refine c_sr ?_
  refine pl_val (.int .i64 0) (y_assign rfl) ?_
  refine c_nil ?_
  refine c_seq ?_
  refine c_sr ?_
  refine pl_val (.int .i64 0) (y_assign rfl) ?_
  refine c_nil ?_
  obtain ⟨o141, g0, hs⟩ := bind_some hs
  refine wp_block ?_
  refine wp_iter (id := 2) (I := fun s137 a a4 => ∃ (σ : Nat → Value), a = fr 51 (ovl σ [(1, (.slice pa0 pn0 pc0)), (5, (.slice a0 a1 a2)), (6, (.int .i64 k116)), (7, (.int .i64 s137.1)), (8, (.int .i64 s137.2))]) ∧ Chg [] w a4 ∧ Own (Nw w []) M a4 (a7 ++ []) ∧ (RT.rs (RT.pr (RT.rs (RT.int .i64)) (RT.pr (RT.int .i64) (RT.rs (RT.rs (RT.int .i64)))))).val M a4 (.slice pa0 pn0 pc0) list ([]) ∧ (RT.os 28 (RT.os 56 (RT.pr (RT.rs (RT.int .i64)) (RT.pr (RT.int .i64) (RT.rs (RT.rs (RT.int .i64))))))).val M a4 (.slice a0 a1 a2) s114 a7) (J := fun s137 a a4 => ∃ (σ : Nat → Value), a = fr 51 (ovl σ [(1, (.slice pa0 pn0 pc0)), (5, (.slice a0 a1 a2)), (6, (.int .i64 k116)), (7, (.int .i64 s137.1))]) ∧ Chg [] w a4 ∧ Own (Nw w []) M a4 (a7 ++ []) ∧ (RT.rs (RT.pr (RT.rs (RT.int .i64)) (RT.pr (RT.int .i64) (RT.rs (RT.rs (RT.int .i64)))))).val M a4 (.slice pa0 pn0 pc0) list ([]) ∧ (RT.os 28 (RT.os 56 (RT.pr (RT.rs (RT.int .i64)) (RT.pr (RT.int .i64) (RT.rs (RT.rs (RT.int .i64))))))).val M a4 (.slice a0 a1 a2) s114 a7) (K := (k_spec_l19Most M w)) ?_ FU (0, 0) o141 _ _ ?_ g0 ?_
  ·rintro s137 o141 a a4 ⟨σ, rfl, hC, hO, h0, a3⟩ hs
   refine c_seq ?_
   refine c_sr ?_
   refine pl_val (.int .i64 s137.2) (y_move rfl) ?_
   refine pl_val (.slice pa0 pn0 pc0) (y_move rfl) ?_
   refine pl_val (.int .i64 k116) (y_move rfl) ?_
   obtain ⟨x143, g1, hs⟩ := bind_some hs
   obtain ⟨e0, e1, g2, g3⟩ := rs_idx Sl28 Sz56 h0 g1
   refine pl_val (.pointer (some ⟨e0, e1, none⟩)) (g2 _ _ _ _ _ _ _ _ _ rfl rfl) ?_
   obtain ⟨g4, _⟩ := pr_at g3
   refine pl_val (.pointer (some ⟨e0, e1 + 0, none⟩)) (y_faddr rfl Fa56x0) ?_
   obtain ⟨m2, g5, e2⟩ := at_load Ag41 Sz41 (fun _ => rfl) g4
   obtain ⟨g6, g7, g8, rfl⟩ := rs_sl e2
   refine pl_val (.slice g6 g7 g8) (y_load rfl (g5 _ (Chg.refl _ _))) ?_
   refine pl_val (.int .i64 (x143.1.length : Int)) (y_len' Sl41 (rs_len e2) rfl) ?_
   refine pl_val (.bool (decide (s137.2 < (x143.1.length : Int)))) (y_lss rfl rfl) ?_
   refine c_nil ?_
   rcases bif_some hs with ⟨c3, hs⟩ | ⟨c3, hs⟩
   ·refine c_condT (congrArg Value.bool c3) ?_
    refine wp_skip ?_
    refine c_seq ?_
    refine wp_block ?_
    refine c_region ?_
    refine pl_val (.int .i64 s137.1) (y_move rfl) ?_
    refine pl_val (.slice pa0 pn0 pc0) (y_move rfl) ?_
    refine pl_val (.int .i64 k116) (y_move rfl) ?_
    obtain ⟨x149, g9, hs⟩ := bind_some hs
    obtain ⟨e3, e4, h1, h2⟩ := rs_idx Sl28 Sz56 h0 g9
    refine pl_val (.pointer (some ⟨e3, e4, none⟩)) (h1 _ _ _ _ _ _ _ _ _ rfl rfl) ?_
    obtain ⟨h3, _⟩ := pr_at h2
    refine pl_val (.pointer (some ⟨e3, e4 + 0, none⟩)) (y_faddr rfl Fa56x0) ?_
    obtain ⟨m3, h4, b7⟩ := at_load Ag41 Sz41 (fun _ => rfl) h3
    obtain ⟨h5, h6, h7, rfl⟩ := rs_sl b7
    refine pl_val (.slice h5 h6 h7) (y_load rfl (h4 _ (Chg.refl _ _))) ?_
    refine pl_val (.int .i64 s137.2) (y_move rfl) ?_
    obtain ⟨x154, h8, hs⟩ := bind_some hs
    obtain ⟨h9, i0, i1, i2⟩ := rs_idx Sl41 Sz3 b7 h8
    refine pl_val (.pointer (some ⟨h9, i0, none⟩)) (i1 _ _ _ _ _ _ _ _ _ rfl rfl) ?_
    refine pl_val (.int .i64 x154) (y_load rfl ((at_load_int Ag3 Sz3 i2) _ (Chg.refl _ _))) ?_
    obtain ⟨r157, i3, hs⟩ := bind_some hs
    refine pl_call Bd131 rfl (c_spec_l1Most (M := M) s137.1 x154  hO.fut i3) ?_
    rintro _ m4 ⟨rfl, b2⟩
    have h0 := h0.ext b2
    have a3 := a3.ext b2
    have b7 := b7.ext b2
    have hC := hC.ext b2
    have hO := hO.ext b2
    refine pl_val (.int .i64 r157) (y_assign rfl) ?_
    refine c_nil ?_
    refine c_region ?_
    refine pl_val (.int .i64 s137.2) (y_move rfl) ?_
    refine pl_val (.int .i64 (w64 (s137.2 + 1))) (y_add rfl rfl) ?_
    refine pl_val (.int .i64 (w64 (s137.2 + 1))) (y_assign rfl) ?_
    refine c_nil ?_
    cases hs
    exact ⟨_, fr_ovl 51 ⟨rfl, rfl, rfl, rfl, rfl, trivial⟩, hC, hO, h0, a3⟩
   refine c_condF (congrArg Value.bool c3) ?_
   refine wp_exit ?_
   cases hs
   exact ⟨rfl, _, fr_ovl 51 ⟨rfl, rfl, rfl, rfl, trivial⟩, hC, hO, h0, a3⟩
  ·skip
   exact ⟨_, fr_ovl 51 ⟨rfl, rfl, rfl, rfl, rfl, trivial⟩, hC, hO, h0, a3⟩
  cases o141 with
  | nx _ => exact True.intro
  | rt r_ =>
   have hs := after_rt hs
   intro c4 d9 hK
   cases hs
   exact hK
  | br s137 =>
   have hs := after_br hs
   rintro c4 a4 ⟨σ, rfl, hC, hO, h0, a3⟩
   refine x_start [11, 13] Mx rfl ?_
   have b3 := Chg.drew a4
   generalize World.drew a4 = e5 at b3 ⊢
   have h0 := h0.ext b3
   have a3 := a3.ext b3
   have hC := hC.ext b3
   have hO := hO.ext b3
   have hS := Chg.refl [] e5
   refine x_p 0 (.slice a0 a1 a2) rfl (by kernel_rfl)  (fun _ => y_move rfl) (fun _ => hS) ?_
   refine x_p 1 (.int .i64 s137.1) rfl (by kernel_rfl)  (fun _ => y_move rfl) (fun _ => hS) ?_
   refine x_p 2 (.slice a0 a1 a2) rfl (by kernel_rfl)  (fun _ => y_move rfl) (fun _ => hS) ?_
   refine x_p 3 (.int .i64 s137.1) rfl (by kernel_rfl)  (fun _ => y_move rfl) (fun _ => hS) ?_
   obtain ⟨x159, c5, hs⟩ := bind_some hs
   obtain ⟨i4, m5, i5, m6, i6, i7, i9⟩ := os_idx Sl117 Sz28 a3 c5
   have j0 := own_row (Frz.os (Frz.pr (Frz.rs Frz.int) (Frz.pr Frz.int (Frz.rs (Frz.rs Frz.int))))) i7 i9
   refine x_p 4 (.pointer (some ⟨i4, 0 + Int.toNat s137.1 * 1, none⟩)) rfl (by kernel_rfl)  (fun _ => i6 _ _ _ _ _ _ _ _ _ rfl rfl) (fun _ => hS) ?_
   obtain ⟨m7, j1, hrow161, c6⟩ := at_load1 Ag28 Sz28 rfl rfl j0
   obtain ⟨c7, c8, c9, rfl⟩ := rs_sl c6
   refine x_l 5 (.slice c7 c8 c9) rfl (by kernel_rfl)  (fun w' hw' => y_load rfl (j1 w' hw')) hS ?_
   refine x_p 6 (.slice pa0 pn0 pc0) rfl (by kernel_rfl)  (fun _ => y_move rfl) (fun _ => hS) ?_
   refine x_p 7 (.int .i64 k116) rfl (by kernel_rfl)  (fun _ => y_move rfl) (fun _ => hS) ?_
   obtain ⟨x163, j2, hs⟩ := bind_some hs
   obtain ⟨j3, j4, j5, j6⟩ := rs_idx Sl28 Sz56 h0 j2
   refine x_p 8 (.pointer (some ⟨j3, j4, none⟩)) rfl (by kernel_rfl)  (fun _ => j5 _ _ _ _ _ _ _ _ _ rfl rfl) (fun _ => hS) ?_
   obtain ⟨m8, j7, j8⟩ := at_load Ag56 Sz56 (by intro h; cases h) j6
   obtain ⟨m9, rfl, j9⟩ := j8
   obtain ⟨n0, n1, rfl, k0, k1⟩ := pr_open j9
   obtain ⟨d0, d1, d2, rfl, a8⟩ := rs_rel k0
   obtain ⟨n2, n3, rfl, k2, k3⟩ := pr_open k1
   obtain rfl := int_rel k2
   obtain ⟨d3, d4, d5, rfl, a9⟩ := rs_rel k3
   refine x_l 9 (.agg #[(.slice d0 d1 d2), (.int .i64 x163.2.1), (.slice d3 d4 d5)]) rfl (by kernel_rfl)  (fun w' hw' => y_load rfl (j7 w' hw')) hS ?_
   refine x_one (i := 10) (by kernel_rfl) ?_
   obtain ⟨d6, d7, k4, e6, a6, e7⟩ := new_block e5 [(.slice d0 d1 d2), (.int .i64 x163.2.1), (.slice d3 d4 d5)] 56
   refine xk_val (w' := d6) (b := false) (.slice (some ⟨d7, 0, none⟩) 1 1) rfl  (y_bslice rfl (by rw [k4, e6]; kernel_rfl)) rfl (fun _ => hS.ext a6) ?_
   have h0 := h0.ext a6
   have a3 := a3.ext a6
   have c6 := c6.ext a6
   have hrow161 := hrow161.cn a6
   have a8 := a8.ext a6
   have a9 := a9.ext a6
   have hC := hC.ext a6
   have hO := hO.new1 a6 e6 e7.lt
   have d8 := os_of_box (r := (RT.pr (RT.rs (RT.int .i64)) (RT.pr (RT.int .i64) (RT.rs (RT.rs (RT.int .i64)))))) (M := M) (css := [[(.slice d0 d1 d2), (.int .i64 x163.2.1), (.slice d3 d4 d5)]]) (fps := [([] : List Nat)]) (xs := ([(x163.1, (x163.2.1, x163.2.2))] : List ((List Int) × (Int × (List (List Int)))))) e7 ⟨⟨_, _, _, _, rfl, rfl, (rs_unval a8), ⟨_, _, _, _, rfl, rfl, ⟨rfl, rfl⟩, (rs_unval a9)⟩⟩, trivial⟩ (Nat.le_of_ble_eq_true rfl) (List.nodup_cons.2 ⟨(fun h => nomatch h), List.nodup_nil⟩)
   have d8 : (RT.os 56 (RT.pr (RT.rs (RT.int .i64)) (RT.pr (RT.int .i64) (RT.rs (RT.rs (RT.int .i64)))))).val M d6 (.slice (some ⟨d7, 0, none⟩) 1 1) [(x163.1, (x163.2.1, x163.2.2))] [d7] := d8
   have hS := hS.ext a6
   refine x_one (i := 11) (by kernel_rfl) ?_
   have hO := hO.fr1
   obtain ⟨k5, k6, k7, n4, k8, b0⟩ := oh_take (c := [(.slice c7 c8 c9)]) i5 (os_hole a3) (idx_map_some c5) hrow161 rfl
   have hO := hO.split k8
   have e8 : (RT.os 56 (RT.pr (RT.rs (RT.int .i64)) (RT.pr (RT.int .i64) (RT.rs (RT.rs (RT.int .i64)))))).val M d6 (.slice c7 c8 c9) x159 k5 := ⟨[_], rfl, k7⟩
   obtain ⟨y172, k9, hs⟩ := bind_some hs
   have hO := hO.fr2
   have hO := hO.fr1
   obtain ⟨e9, f0, f1, l0, n5, l1, b1, l2, b8⟩ := app_os Rw28 k9 e8 d8 hO.inM (fun g hg hq => hO.apart g hq (mem_l hg))
   have b4 := os_block e8
   refine xk_val (w' := l0) (b := true) (.slice e9 f0 f1) rfl  (y_append rfl rfl (l1 _)) rfl (fun h => nomatch h) ?_
   have hO := hO.fr1
   have hO := hO.fr1
   have h0 := h0.mt b1 hO b4
   have b0 := b0.ma b1 hO b4 (fun _ e => (mem_r (mem_l (e))))
   have a8 := a8.mt b1 hO b4
   have a9 := a9.mt b1 hO b4
   have hC := hC.st b1 hO b4
   have hO := hO.eat b1 l2 (os_nodup b8) b8.fpl
   obtain ⟨f2, n6, f3, l3, l4, n7, n8⟩ := os_idx Sl117 Sz28 b0 (idx_hole c5)
   refine x_p 12 (.pointer (some ⟨f2, 0 + Int.toNat s137.1 * 1, none⟩)) rfl (by kernel_rfl)  (fun _ => l4 _ _ _ _ _ _ _ _ _ rfl rfl) (fun h => nomatch h) ?_
   refine x_one (i := 13) (by kernel_rfl) ?_
   have hO := hO.fr1
   obtain ⟨l5, l6, l7, b5, l8, b6⟩ := os_store (P := Try.prog) (y := some y172) (c' := [(.slice e9 f0 f1)]) f3 b0 l3 (fun g hg => hO.inM g (os_block b0 g (by simpa using hg))) (show (RT.hole (RT.os 56 (RT.pr (RT.rs (RT.int .i64)) (RT.pr (RT.int .i64) (RT.rs (RT.rs (RT.int .i64))))))).rel _ _ _ (some _) _ from os_unval b8) (os_nodup b8) (fun g hg hq => hO.apart g hq (mem_l hg)) (fun _ h => .inl h)
   have b9 : ∀ q ∈ [f2], q ∈ k6 := fun q hq => os_block b0 q (by rw [f3]; exact hq)
   have b6 := os_fill b6
   refine xk_skip (w' := l5) (b := true) rfl (ys_store rfl rfl (l7 _ _ rfl Sz28)) rfl (fun h => nomatch h) ?_
   have hO := hO.fr1
   have hO := hO.fr1
   have h0 := h0.mt b5 hO b9
   have a8 := a8.mt b5 hO b9
   have a9 := a9.mt b5 hO b9
   have hC := hC.st b5 hO b9
   have hO := hO.eat b5 (fun q hq => (l8 q hq).elim .inl (fun h => .inr (.inl h))) (os_nodup b6) b6.fpl
   refine x_end (by kernel_rfl) ?_
   clear hS
   refine c_region ?_
   refine pl_val (.int .i64 k116) (y_move rfl) ?_
   refine pl_val (.int .i64 (w64 (k116 + 1))) (y_add rfl rfl) ?_
   refine pl_val (.int .i64 (w64 (k116 + 1))) (y_assign rfl) ?_
   refine c_nil ?_
   cases hs
   exact ⟨_, l6, fr_ovl 51 ⟨rfl, rfl, congrArg (Value.int .i64) hw, trivial⟩, hC, hO, h0, b6⟩
 ·skip
  exact ⟨_, f6, fr_ovl 51 ⟨rfl, rfl, rfl, trivial⟩, hC, hO, h0, c1⟩
 cases o118 with
 | nx _ => exact True.intro
 | rt r_ =>
  have hs := after_rt hs
  intro c4 d9 hK
  cases hs
  exact hK
 | br s114 =>
  have hs := after_br hs
  rintro c4 a5 ⟨σ, c2, rfl, hC, hO, h0, l9⟩
  refine c_sr ?_
  refine pl_val (.slice a0 a1 a2) (y_move rfl) ?_
  refine pl_val (.slice a0 a1 a2) (y_assign rfl) ?_
  refine c_nil ?_
  refine wp_ret ?_
  cases hs
  obtain ⟨n9, o0, o1, m0, hO, m1⟩ := frz_own (Frz.os (Frz.os (Frz.pr (Frz.rs Frz.int) (Frz.pr Frz.int (Frz.rs (Frz.rs Frz.int)))))) l9 hO
  have hK := m0
  exact ⟨_, a0, a1, a2, fr_ovl 51 ⟨rfl, trivial⟩, hC, (Keeps.out hK m1)⟩

def k_spec_l1Own (M : Nat → Prop) (w0 : World) (r : (List Int)) (a : Act) (w : World) : Prop :=
  ∃ (σ : Nat → Value) (ra0 : Option Addr) (rn0 rc0 : Nat) (rf0 : List Nat), a = fr 6 (ovl σ [(2, (.slice ra0 rn0 rc0))]) ∧ Chg [] w0 w ∧ (RT.os 3 (RT.int .i64)).val M w (.slice ra0 rn0 rc0) r rf0 ∧ Own (Nw w0 []) (fun _ => True) w (rf0 ++ ([]))
def s_spec_l1Own (l : List Int) : Option ((List Int)) :=
  (app ([]) l).bind fun y5 =>
  some y5
set_option maxHeartbeats 4000000 in
theorem c_spec_l1Own {M : Nat → Prop} {w : World} {pa0 : Option Addr} {pn0 pc0 : Nat} (l : List Int) (h0 : (RT.rs (RT.int .i64)).val M w (.slice pa0 pn0 pc0) l ([])) (hM : ∀ g, w.heap.size ≤ g → M g) {r : (List Int)} (hs : s_spec_l1Own l = some r) :
    Gives Try.prog 121 [(.slice pa0 pn0 pc0)] w (fun v w' => ∃ (ra0 : Option Addr) (rn0 rc0 : Nat) (rf0 : List Nat), v = (.slice ra0 rn0 rc0) ∧ Chg [] w w' ∧ (RT.os 3 (RT.int .i64)).val M w' (.slice ra0 rn0 rc0) r rf0 ∧ Own (Nw w []) (fun _ => True) w' (rf0 ++ ([]))) := by
 refine calls_fr Try.func121 rfl Try.ntmps121 (Nat.le_of_ble_eq_true rfl) ?_
 have hO := Own.start (N := Nw w []) hM Nw.fut
 have hC := Chg.refl [] w
 unfold s_spec_l1Own at hs
 refine wp_mono (Q := KPost (k_spec_l1Own M w r)) ?_ (fun e a b8 h => ?_)
 rotate_left
 ·cases e
  case ret =>
   obtain ⟨σ, ra0, rn0, rc0, rf0, rfl, hrest⟩ := h
   exact ret1x Try.results121 (res_tmp rfl) ⟨ra0, rn0, rc0, rf0, rfl, hrest⟩
  all_goals exact (h : False).elim
 refine c_sr ?_
 refine pl_val (.slice none 0 0) (y_assign rfl) ?_
 refine c_nil ?_
 refine c_sr ?_
 obtain ⟨a8, a1, b2, a9, a2, b0⟩ := new_block w [] 3
 refine pl_val (w' := a8) (.slice (some ⟨a1, 0, none⟩) 0 0) (y_bslice rfl (by rw [b2, a9]; kernel_rfl)) ?_
 have h0 := h0.ext a2
 have hC := hC.ext a2
 have hO := hO.new1 a2 a9 b0.lt
 have a0 := os_of_box (r := (RT.int .i64)) (M := M) (css := []) (fps := []) (xs := ([] : List Int)) b0 trivial (Nat.zero_le _) (List.nodup_cons.2 ⟨(fun h => nomatch h), List.nodup_nil⟩)
 have a0 : (RT.os 3 (RT.int .i64)).val M a8 (.slice (some ⟨a1, 0, none⟩) 0 0) [] [a1] := a0
 refine pl_val (.slice pa0 pn0 pc0) (y_move rfl) ?_
 obtain ⟨y5, b3, hs⟩ := bind_some hs
 obtain ⟨a3, a4, a5, b4, b5, b6, a6, b7, a7⟩ := app_rs Rw41 b3 a0 h0 hO.inM
 have b1 := os_block a0
 refine pl_val (w' := b4) (.slice a3 a4 a5) (y_append rfl rfl (b6 _)) ?_
 have h0 := h0.mt a6 hO b1
 have hC := hC.st a6 hO b1
 have hO := hO.grow a6 b7 (os_nodup a7) a7.fpl
 refine pl_val (.slice a3 a4 a5) (y_assign rfl) ?_
 refine c_nil ?_
 refine wp_ret ?_
 cases hs
 exact ⟨_, a3, a4, a5, b5, fr_ovl 6 ⟨rfl, trivial⟩, hC, a7, hO.top⟩

theorem Bd77 : Bodied Try.prog 77 := bodied Try.func77 (by kernel_rfl) rfl

def k_spec_l19Satisfies (M : Nat → Prop) (w0 : World) (r : Bool) (a : Act) (w : World) : Prop :=
  ∃ (σ : Nat → Value) , a = fr 30 (ovl σ [(4, (.bool r))]) ∧ Chg [] w0 w
def s_spec_l19Satisfies (c : (List Int) × (Int × (List (List Int)))) (values : List Int) : Option (Bool) :=
  (forC (S := (List Int)) (R := Bool) (fun k20 s18 =>
  (idx c.1 k20).bind fun x28 =>
  (idx values x28).bind fun x30 =>
  (app s18 ([x30])).bind fun y35 =>
  some (.nx y35)) 0 (c.1.length : Int) ([])).bind fun o22 => after o22 (fun r_ => some r_) (fun s18 =>
  (s_spec_l13Has (c.2.1, c.2.2) s18).bind fun r38 =>
  some r38)
set_option maxHeartbeats 4000000 in
theorem c_spec_l19Satisfies {M : Nat → Prop} {w : World} {pa0 : Option Addr} {pn0 pc0 : Nat} {pa1 : Option Addr} {pn1 pc1 : Nat} {pa2 : Option Addr} {pn2 pc2 : Nat} (c : (List Int) × (Int × (List (List Int)))) (values : List Int) (h0 : (RT.rs (RT.int .i64)).val M w (.slice pa0 pn0 pc0) c.1 ([])) (h1 : (RT.rs (RT.rs (RT.int .i64))).val M w (.slice pa1 pn1 pc1) c.2.2 ([])) (h2 : (RT.rs (RT.int .i64)).val M w (.slice pa2 pn2 pc2) values ([])) (hM : ∀ g, w.heap.size ≤ g → M g) {r : Bool} (hs : s_spec_l19Satisfies c values = some r) :
    Gives Try.prog 130 [(.agg #[(.slice pa0 pn0 pc0), (.int .i64 c.2.1), (.slice pa1 pn1 pc1)]), (.slice pa2 pn2 pc2)] w (fun v w' => v = (.bool r) ∧ Chg [] w w') := by
 refine calls_fr Try.func130 rfl Try.ntmps130 (Nat.le_of_ble_eq_true rfl) ?_
 have hO := Own.start (N := Nw w []) hM Nw.fut
 have hC := Chg.refl [] w
 unfold s_spec_l19Satisfies at hs
 refine wp_mono (Q := KPost (k_spec_l19Satisfies M w r)) ?_ (fun e a d5 h => ?_)
 rotate_left
 ·cases e
  case ret =>
   obtain ⟨σ, rfl, hrest⟩ := h
   exact ret1x Try.results130 (res_tmp rfl) ⟨rfl, hrest⟩
  all_goals exact (h : False).elim
 refine c_sr ?_
 obtain ⟨c7, a2, d6, c8, b2, a0⟩ := new_block w [(.slice pa0 pn0 pc0), (.int .i64 c.2.1), (.slice pa1 pn1 pc1)] 56
 refine pl_val (w' := c7) (.pointer (some ⟨a2, 0, none⟩)) (y_box rfl (by rw [d6, c8]; kernel_rfl)) ?_
 have h0 := h0.ext b2
 have h1 := h1.ext b2
 have h2 := h2.ext b2
 have hC := hC.ext b2
 have hO := hO.new1 b2 c8 a0.lt
 refine pl_val (.bool false) (y_assign rfl) ?_
 refine c_nil ?_
 refine c_sr ?_
 obtain ⟨c9, a5, d7, d0, a6, d1⟩ := new_block c7 [] 3
 refine pl_val (w' := c9) (.slice (some ⟨a5, 0, none⟩) 0 0) (y_bslice rfl (by rw [d7, d0]; kernel_rfl)) ?_
 have h0 := h0.ext a6
 have h1 := h1.ext a6
 have h2 := h2.ext a6
 have a0 := a0.cn a6
 have hC := hC.ext a6
 have hO := hO.new1 a6 d0 d1.lt
 have b9 := os_of_box (r := (RT.int .i64)) (M := M) (css := []) (fps := []) (xs := ([] : List Int)) d1 trivial (Nat.zero_le _) (List.nodup_cons.2 ⟨(fun h => nomatch h), List.nodup_nil⟩)
 have b9 : (RT.os 3 (RT.int .i64)).val M c9 (.slice (some ⟨a5, 0, none⟩) 0 0) [] [a5] := b9
 refine pl_val (.slice (some ⟨a5, 0, none⟩) 0 0) (y_assign rfl) ?_
 refine c_nil ?_
 refine c_seq ?_
 refine c_sr ?_
 refine pl_val (.int .i64 0) (y_assign rfl) ?_
 refine c_nil ?_
 obtain ⟨o22, d8, hs⟩ := bind_some hs
 refine wp_block ?_
 refine wp_forC (id := 0) (c.1.length : Int) (I := fun k20 s18 a a1 => ∃ (σ : Nat → Value) (a7 : Option Addr) (a8 : Nat) (a9 : Nat) (b3 : List Nat), a = fr 30 (ovl σ [(1, (.slice pa2 pn2 pc2)), (2, (.pointer (some ⟨a2, 0, none⟩))), (5, (.slice a7 a8 a9)), (6, (.int .i64 k20))]) ∧ Chg [] w a1 ∧ Own (Nw w []) M a1 (b3 ++ (([a2]) ++ [])) ∧ (RT.rs (RT.int .i64)).val M a1 (.slice pa0 pn0 pc0) c.1 ([]) ∧ (RT.rs (RT.rs (RT.int .i64))).val M a1 (.slice pa1 pn1 pc1) c.2.2 ([]) ∧ (RT.rs (RT.int .i64)).val M a1 (.slice pa2 pn2 pc2) values ([]) ∧ BoxV a1 a2 56 [(.slice pa0 pn0 pc0), (.int .i64 c.2.1), (.slice pa1 pn1 pc1)] ∧ (RT.os 3 (RT.int .i64)).val M a1 (.slice a7 a8 a9) s18 b3) (J := fun s18 a a1 => ∃ (σ : Nat → Value) (b5 : Option Addr) (b6 : Nat) (b7 : Nat) (b8 : List Nat), a = fr 30 (ovl σ [(2, (.pointer (some ⟨a2, 0, none⟩))), (5, (.slice b5 b6 b7))]) ∧ Chg [] w a1 ∧ Own (Nw w []) M a1 (b8 ++ (([a2]) ++ [])) ∧ (RT.rs (RT.int .i64)).val M a1 (.slice pa0 pn0 pc0) c.1 ([]) ∧ (RT.rs (RT.rs (RT.int .i64))).val M a1 (.slice pa1 pn1 pc1) c.2.2 ([]) ∧ (RT.rs (RT.int .i64)).val M a1 (.slice pa2 pn2 pc2) values ([]) ∧ BoxV a1 a2 56 [(.slice pa0 pn0 pc0), (.int .i64 c.2.1), (.slice pa1 pn1 pc1)] ∧ (RT.os 3 (RT.int .i64)).val M a1 (.slice b5 b6 b7) s18 b8) (K := (k_spec_l19Satisfies M w)) ?_ ?_ 0 ([]) o22 _ _ ?_ d8 ?_
 ·rintro k20 s18 a a1 ⟨σ, a7, a8, a9, b3, rfl, hC, hO, h0, h1, h2, a0, b0⟩ hlt
  refine c_seq ?_
  refine c_sr ?_
  refine pl_val (.int .i64 k20) (y_move rfl) ?_
  refine pl_val (.pointer (some ⟨a2, 0, none⟩)) (y_faddr rfl Fa56x0) ?_
  refine pl_val (.slice pa0 pn0 pc0) (y_load rfl ((box_load Ag41 Sz41 a0 [] [(.slice pa0 pn0 pc0)] [(.int .i64 c.2.1), (.slice pa1 pn1 pc1)] rfl rfl (fun _ => rfl)) _ (Chg.refl _ _))) ?_
  refine pl_val (.int .i64 (c.1.length : Int)) (y_len' Sl41 (rs_len h0) rfl) ?_
  refine pl_val (.bool (decide (k20 < (c.1.length : Int)))) (y_lss rfl rfl) ?_
  refine c_nil ?_
  refine c_condF (congrArg Value.bool (decide_eq_false hlt)) ?_
  refine wp_exit ?_
  have hO := hO.fr1
  have hO := hO.fr1
  exact ⟨rfl, _, a7, a8, a9, b3, fr_ovl 30 ⟨rfl, rfl, trivial⟩, hC, hO, h0, h1, h2, a0, b0⟩
 ·rintro k20 s18 o22 a a1 ⟨σ, a7, a8, a9, b3, rfl, hC, hO, h0, h1, h2, a0, b0⟩ hlt hw hs
  refine c_seq ?_
  refine c_sr ?_
  refine pl_val (.int .i64 k20) (y_move rfl) ?_
  refine pl_val (.pointer (some ⟨a2, 0, none⟩)) (y_faddr rfl Fa56x0) ?_
  refine pl_val (.slice pa0 pn0 pc0) (y_load rfl ((box_load Ag41 Sz41 a0 [] [(.slice pa0 pn0 pc0)] [(.int .i64 c.2.1), (.slice pa1 pn1 pc1)] rfl rfl (fun _ => rfl)) _ (Chg.refl _ _))) ?_
  refine pl_val (.int .i64 (c.1.length : Int)) (y_len' Sl41 (rs_len h0) rfl) ?_
  refine pl_val (.bool (decide (k20 < (c.1.length : Int)))) (y_lss rfl rfl) ?_
  refine c_nil ?_
  refine c_condT (congrArg Value.bool (decide_eq_true hlt)) ?_
  refine wp_skip ?_
  refine c_seq ?_
  refine wp_block ?_
  refine c_region ?_
  refine pl_val (.slice a7 a8 a9) (y_move rfl) ?_
  refine pl_val (.slice pa2 pn2 pc2) (y_move rfl) ?_
  refine pl_val (.pointer (some ⟨a2, 0, none⟩)) (y_faddr rfl Fa56x0) ?_
  refine pl_val (.slice pa0 pn0 pc0) (y_load rfl ((box_load Ag41 Sz41 a0 [] [(.slice pa0 pn0 pc0)] [(.int .i64 c.2.1), (.slice pa1 pn1 pc1)] rfl rfl (fun _ => rfl)) _ (Chg.refl _ _))) ?_
  refine pl_val (.int .i64 k20) (y_move rfl) ?_
  obtain ⟨x28, d9, hs⟩ := bind_some hs
  obtain ⟨e0, e1, e2, e3⟩ := rs_idx Sl41 Sz3 h0 d9
  refine pl_val (.pointer (some ⟨e0, e1, none⟩)) (e2 _ _ _ _ _ _ _ _ _ rfl rfl) ?_
  refine pl_val (.int .i64 x28) (y_load rfl ((at_load_int Ag3 Sz3 e3) _ (Chg.refl _ _))) ?_
  obtain ⟨x30, e4, hs⟩ := bind_some hs
  obtain ⟨e5, e6, e7, e8⟩ := rs_idx Sl41 Sz3 h2 e4
  refine pl_val (.pointer (some ⟨e5, e6, none⟩)) (e7 _ _ _ _ _ _ _ _ _ rfl rfl) ?_
  refine pl_val (.int .i64 x30) (y_load rfl ((at_load_int Ag3 Sz3 e8) _ (Chg.refl _ _))) ?_
  obtain ⟨d2, c0, e9, d3, a3, d4⟩ := new_block a1 [(.int .i64 x30)] 3
  refine pl_val (w' := d2) (.slice (some ⟨c0, 0, none⟩) 1 1) (y_bslice rfl (by rw [e9, d3]; kernel_rfl)) ?_
  have h0 := h0.ext a3
  have h1 := h1.ext a3
  have h2 := h2.ext a3
  have a0 := a0.cn a3
  have b0 := b0.ext a3
  have hC := hC.ext a3
  have hO := hO.new1 a3 d3 d4.lt
  have c1 := os_of_box (r := (RT.int .i64)) (M := M) (css := [[(.int .i64 x30)]]) (fps := [([] : List Nat)]) (xs := ([x30] : List Int)) d4 ⟨⟨rfl, rfl⟩, trivial⟩ (Nat.le_of_ble_eq_true rfl) (List.nodup_cons.2 ⟨(fun h => nomatch h), List.nodup_nil⟩)
  have c1 : (RT.os 3 (RT.int .i64)).val M d2 (.slice (some ⟨c0, 0, none⟩) 1 1) [x30] [c0] := c1
  obtain ⟨y35, f0, hs⟩ := bind_some hs
  have hO := hO.fr1
  obtain ⟨c2, c3, c4, f1, f2, f3, b1, f4, c5⟩ := app_os Rw41 f0 b0 c1 hO.inM (fun g hg hq => hO.apart g hq (mem_l hg))
  have b4 := os_block b0
  refine pl_val (w' := f1) (.slice c2 c3 c4) (y_append rfl rfl (f3 _)) ?_
  have hO := hO.fr1
  have hO := hO.fr1
  have h0 := h0.mt b1 hO b4
  have h1 := h1.mt b1 hO b4
  have h2 := h2.mt b1 hO b4
  have a0 := a0.ap b1 hO b4 (mem_r (mem_l (List.mem_singleton.2 rfl)))
  have hC := hC.st b1 hO b4
  have hO := hO.eat b1 f4 (os_nodup c5) c5.fpl
  refine pl_val (.slice c2 c3 c4) (y_assign rfl) ?_
  refine c_nil ?_
  refine c_region ?_
  refine pl_val (.int .i64 k20) (y_move rfl) ?_
  refine pl_val (.int .i64 (w64 (k20 + 1))) (y_add rfl rfl) ?_
  refine pl_val (.int .i64 (w64 (k20 + 1))) (y_assign rfl) ?_
  refine c_nil ?_
  cases hs
  have hO := hO.fr1
  have hO := hO.fr1
  exact ⟨_, c2, c3, c4, f2, fr_ovl 30 ⟨rfl, rfl, rfl, congrArg (Value.int .i64) hw, trivial⟩, hC, hO, h0, h1, h2, a0, c5⟩
 ·skip
  have hO := hO.fr1
  have hO := hO.fr1
  exact ⟨_, (some ⟨a5, 0, none⟩), 0, 0, ([a5]), fr_ovl 30 ⟨rfl, rfl, rfl, rfl, trivial⟩, hC, hO, h0, h1, h2, a0, b9⟩
 cases o22 with
 | nx _ => exact True.intro
 | rt r_ =>
  have hs := after_rt hs
  intro f5 d5 hK
  cases hs
  exact hK
 | br s18 =>
  have hs := after_br hs
  rintro f5 a1 ⟨σ, b5, b6, b7, b8, rfl, hC, hO, h0, h1, h2, a0, c6⟩
  refine c_sr ?_
  refine pl_val (.pointer (some ⟨a2, 1, none⟩)) (y_faddr rfl Fa56x1) ?_
  refine pl_val (.agg #[(.int .i64 c.2.1), (.slice pa1 pn1 pc1)]) (y_load rfl ((box_load Ag54 Sz54 a0 [(.slice pa0 pn0 pc0)] [(.int .i64 c.2.1), (.slice pa1 pn1 pc1)] [] rfl rfl (fun h => nomatch h)) _ (Chg.refl _ _))) ?_
  refine pl_val (.slice b5 b6 b7) (y_move rfl) ?_
  obtain ⟨r38, f6, hs⟩ := bind_some hs
  refine pl_call Bd77 rfl (c_spec_l13Has (M := (Less M b8)) (c.2.1, c.2.2) s18 (h1.sub Less.sub) (((Frz.os Frz.int)).val c6 Less.sub Less.not) hO.less.fut f6) ?_
  rintro _ f7 ⟨rfl, a4⟩
  have h0 := h0.ext a4
  have h1 := h1.ext a4
  have h2 := h2.ext a4
  have a0 := a0.cn a4
  have c6 := c6.ext a4
  have hC := hC.ext a4
  have hO := hO.ext a4
  refine pl_val (.bool r38) (y_assign rfl) ?_
  refine c_nil ?_
  refine wp_ret ?_
  cases hs
  exact ⟨_, fr_ovl 30 ⟨rfl, trivial⟩, hC⟩

theorem Ag76 : AggT Try.prog 76 true := fun _ => by kernel_rfl

theorem Sz76 : SzT Try.prog 76 4 := ⟨_, rfl, rfl⟩

theorem Fa76x1 : ∀ (a : Addr) (w : World), (Instr.fieldAt 76 (.pointer (some a)) 1).run Try.prog w = .ok (.pointer (some (a.add 1))) w := fun _ _ => by kernel_rfl

theorem Fa76x0 : ∀ (a : Addr) (w : World), (Instr.fieldAt 76 (.pointer (some a)) 0).run Try.prog w = .ok (.pointer (some (a.add 0))) w := fun _ _ => by kernel_rfl

theorem Fa76x2 : ∀ (a : Addr) (w : World), (Instr.fieldAt 76 (.pointer (some a)) 2).run Try.prog w = .ok (.pointer (some (a.add 2))) w := fun _ _ => by kernel_rfl

theorem Bd121 : Bodied Try.prog 121 := bodied Try.func121 (by kernel_rfl) rfl

theorem Fa76x3 : ∀ (a : Addr) (w : World), (Instr.fieldAt 76 (.pointer (some a)) 3).run Try.prog w = .ok (.pointer (some (a.add 3))) w := fun _ _ => by kernel_rfl

theorem Ag4 : AggT Try.prog 4 false := fun _ => by kernel_rfl

theorem Sz4 : SzT Try.prog 4 1 := ⟨_, rfl, rfl⟩

theorem Bd130 : Bodied Try.prog 130 := bodied Try.func130 (by kernel_rfl) rfl

theorem Bd101 : Bodied Try.prog 101 := bodied Try.func101 (by kernel_rfl) rfl

def k_spec_l19Go__take4 (M : Nat → Prop) (w0 : World) (qa0 : Option Addr) (qn0 qc0 : Nat) (qf0 : List Nat) (r : ((List (List Int)) × Int × Int × Bool)) (a : Act) (w : World) : Prop :=
  ∃ (σ : Nat → Value) (rg10 : Nat) (ra0 : Option Addr) (rn0 rc0 : Nat) (rf0 : List Nat), a = fr 102 (ovl σ [(10, (.pointer (some ⟨rg10, 0, none⟩)))]) ∧ BoxV w rg10 76 [(.slice ra0 rn0 rc0), (.int .i64 r.2.1), (.int .i64 r.2.2.1), (.bool r.2.2.2)] ∧ Chg (qf0 ++ ([])) w0 w ∧ (RT.os 41 (RT.os 3 (RT.int .i64))).val M w (.slice ra0 rn0 rc0) r.1 rf0 ∧ Own (Nw w0 (qf0 ++ ([]))) (fun _ => True) w (rf0 ++ ([]))
def s_spec_l19Go__take4 : Nat → (Int) → (List (List ((List Int) × (Int × (List (List Int)))))) → (List Int) → (List Int) → ((List (List Int)) × Int × Int × Bool) → Option (((List (List Int)) × Int × Int × Bool))
  | 0, _, _, _, _, _ => none
  | fu_ + 1, size, at_, partial_, begun, s_ =>
  (bif ((begun.length : Int) == (at_.length : Int)) then (bif (decide ((s_.1.length : Int) < s_.2.2.1)) then (s_spec_l1Own begun).bind fun r37 =>
  (app s_.1 ([r37])).bind fun y42 =>
  some y42 else some s_.1).bind fun s29 =>
  some (s29, w64 (s_.2.1 + 1), s_.2.2.1, s_.2.2.2) else (iter (S := Int × (List (List Int)) × Int × Int × Bool) (R := ((List (List Int)) × Int × Int × Bool)) (fun s197 =>
  (bif ((decide (s197.1 < size)) && (!(s197.2.2.2.2 && (decide (0 < s197.2.2.1))))) then ((idx partial_ (begun.length : Int)).bind fun x216 =>
  (bif (decide (0 ≤ x216)) then (idx partial_ (begun.length : Int)).bind fun x219 =>
  some (x219 != s197.1) else some false)).bind fun s213 =>
  (bif s213 then some (.nx (w64 (s197.1 + 1), s197.2.1, s197.2.2.1, s197.2.2.2.1, s197.2.2.2.2)) else (s_spec_l1Own begun).bind fun r223 =>
  (app r223 ([s197.1])).bind fun y228 =>
  (iter (S := Bool × Int) (R := ((List (List Int)) × Int × Int × Bool)) (fun s250 =>
  ((idx at_ (begun.length : Int)).bind fun x259 =>
  (bif (decide (s250.2 < (x259.length : Int))) then some s250.1 else some false)).bind fun s256 =>
  (bif s256 then (idx at_ (begun.length : Int)).bind fun x265 =>
  (idx x265 s250.2).bind fun x269 =>
  (s_spec_l19Satisfies (x269.1, (x269.2.1, x269.2.2)) y228).bind fun r275 =>
  some (.nx (r275, w64 (s250.2 + 1))) else some (.br (s250.1, s250.2)))) FU (true, 0)).bind fun o254 => after o254 (fun r_ => some (.rt r_)) (fun s250 =>
  (bif s250.1 then (s_spec_l19Go__take4 fu_ size at_ partial_ y228 (s197.2.1, s197.2.2.1, s197.2.2.2.1, s197.2.2.2.2)).bind fun r278 =>
  some (.nx (w64 (s197.1 + 1), r278.1, r278.2.1, r278.2.2.1, r278.2.2.2)) else some (.nx (w64 (s197.1 + 1), s197.2.1, s197.2.2.1, s197.2.2.2.1, s197.2.2.2.2))))) else some (.br (s197.1, s197.2.1, s197.2.2.1, s197.2.2.2.1, s197.2.2.2.2)))) FU (0, s_.1, s_.2.1, s_.2.2.1, s_.2.2.2)).bind fun o201 => after o201 (fun r_ => some r_) (fun s197 =>
  some (s197.2.1, s197.2.2.1, s197.2.2.2.1, s197.2.2.2.2)))
set_option maxHeartbeats 4000000 in
theorem c_spec_l19Go__take4 : ∀ (fu_ : Nat) {M : Nat → Prop} {w : World} {pa0 : Option Addr} {pn0 pc0 : Nat} {pa1 : Option Addr} {pn1 pc1 : Nat} {pa2 : Option Addr} {pn2 pc2 : Nat} {pa3 : Option Addr} {pn3 pc3 : Nat} {pf3 : List Nat} (size : Int) (at_ : List (List ((List Int) × (Int × (List (List Int)))))) (partial_ : List Int) (begun : List Int) (s_ : (List (List Int)) × Int × Int × Bool) (h0 : (RT.rs (RT.rs (RT.pr (RT.rs (RT.int .i64)) (RT.pr (RT.int .i64) (RT.rs (RT.rs (RT.int .i64))))))).val M w (.slice pa0 pn0 pc0) at_ ([])) (h1 : (RT.rs (RT.int .i64)).val M w (.slice pa1 pn1 pc1) partial_ ([])) (h2 : (RT.rs (RT.int .i64)).val M w (.slice pa2 pn2 pc2) begun ([])) (h3 : (RT.os 41 (RT.os 3 (RT.int .i64))).val M w (.slice pa3 pn3 pc3) s_.1 pf3) (hI : Own (Nw w (pf3 ++ ([]))) M w (pf3 ++ ([]))) (hM : ∀ g, w.heap.size ≤ g → M g) {r : ((List (List Int)) × Int × Int × Bool)} (hs : s_spec_l19Go__take4 fu_ size at_ partial_ begun s_ = some r), Gives Try.prog 101 [(.int .i64 size), (.slice pa0 pn0 pc0), (.slice pa1 pn1 pc1), (.slice pa2 pn2 pc2), (.agg #[(.slice pa3 pn3 pc3), (.int .i64 s_.2.1), (.int .i64 s_.2.2.1), (.bool s_.2.2.2)])] w (fun v w' => ∃ (ra0 : Option Addr) (rn0 rc0 : Nat) (rf0 : List Nat), v = (.agg #[(.slice ra0 rn0 rc0), (.int .i64 r.2.1), (.int .i64 r.2.2.1), (.bool r.2.2.2)]) ∧ Chg (pf3 ++ ([])) w w' ∧ (RT.os 41 (RT.os 3 (RT.int .i64))).val M w' (.slice ra0 rn0 rc0) r.1 rf0 ∧ Own (Nw w (pf3 ++ ([]))) (fun _ => True) w' (rf0 ++ ([]))) := by
 intro fu_
 induction fu_ with
 | zero => intro M w pa0 pn0 pc0 pa1 pn1 pc1 pa2 pn2 pc2 pa3 pn3 pc3 pf3 size at_ partial_ begun s_ h0 h1 h2 h3 hI hM r hs; exact (nomatch hs)
 | succ fu_ c_ih =>
 intro M w pa0 pn0 pc0 pa1 pn1 pc1 pa2 pn2 pc2 pa3 pn3 pc3 pf3 size at_ partial_ begun s_ h0 h1 h2 h3 hI hM r hs
 refine calls_fr Try.func101 rfl Try.ntmps101 (Nat.le_of_ble_eq_true rfl) ?_
 have hO := hI
 have hC := Chg.refl (pf3 ++ ([])) w
 rw [s_spec_l19Go__take4] at hs
 refine wp_mono (Q := KPost (k_spec_l19Go__take4 M w pa3 pn3 pc3 pf3 r)) ?_ (fun e a j3 h => ?_)
 rotate_left
 ·cases e
  case ret =>
   obtain ⟨σ, rg10, ra0, rn0, rc0, rf0, rfl, hbrg10, hrest⟩ := h
   exact ret1x Try.results101 (res_cell rfl (box_load Ag76 Sz76 hbrg10 [] _ [] rfl rfl (fun h => nomatch h))) ⟨ra0, rn0, rc0, rf0, rfl, hrest⟩
  all_goals exact (h : False).elim
 refine c_sr ?_
 obtain ⟨j4, a2, l3, j5, e7, a1⟩ := new_block w [(.slice pa3 pn3 pc3), (.int .i64 s_.2.1), (.int .i64 s_.2.2.1), (.bool s_.2.2.2)] 76
 refine pl_val (w' := j4) (.pointer (some ⟨a2, 0, none⟩)) (y_box rfl (by rw [l3, j5]; kernel_rfl)) ?_
 have h0 := h0.ext e7
 have h1 := h1.ext e7
 have h2 := h2.ext e7
 have h3 := h3.ext e7
 have hC := hC.ext e7
 have hO := hO.new1 e7 j5 a1.lt
 obtain ⟨l4, a3, l5, j6, d9, a0⟩ := new_block j4 [(.slice none 0 0), (.int .i64 0), (.int .i64 0), (.bool false)] 76
 refine pl_val (w' := l4) (.pointer (some ⟨a3, 0, none⟩)) (y_alloc (by rw [l5, j6]; kernel_rfl)) ?_
 have h0 := h0.ext d9
 have h1 := h1.ext d9
 have h2 := h2.ext d9
 have h3 := h3.ext d9
 have a1 := a1.cn d9
 have hC := hC.ext d9
 have hO := hO.new1 d9 j6 a0.lt
 refine c_nil ?_
 refine c_sr ?_
 refine pl_val (.slice pa2 pn2 pc2) (y_move rfl) ?_
 refine pl_val (.int .i64 (begun.length : Int)) (y_len' Sl41 (rs_len h2) rfl) ?_
 refine pl_val (.int .i64 (begun.length : Int)) (y_assign rfl) ?_
 refine c_nil ?_
 refine c_seq ?_
 refine c_sr ?_
 refine pl_val (.int .i64 (begun.length : Int)) (y_move rfl) ?_
 refine pl_val (.slice pa0 pn0 pc0) (y_move rfl) ?_
 refine pl_val (.int .i64 (at_.length : Int)) (y_len' Sl117 (rs_len h0) rfl) ?_
 refine pl_val (.bool ((begun.length : Int) == (at_.length : Int))) (y_eql rfl rfl) ?_
 refine c_nil ?_
 rcases bif_some hs with ⟨g4, hs⟩ | ⟨g4, hs⟩
 ·refine c_condT (congrArg Value.bool g4) ?_
  refine c_sr ?_
  refine pl_val (.pointer (some ⟨a2, 1, none⟩)) (y_faddr rfl Fa76x1) ?_
  refine pl_val (.int .i64 s_.2.1) (y_load rfl ((box_load Ag3 Sz3 a1 [(.slice pa3 pn3 pc3)] [(.int .i64 s_.2.1)] [(.int .i64 s_.2.2.1), (.bool s_.2.2.2)] rfl rfl (fun _ => rfl)) _ (Chg.refl _ _))) ?_
  refine pl_val (.int .i64 (w64 (s_.2.1 + 1))) (y_add rfl rfl) ?_
  refine pl_val (.pointer (some ⟨a2, 1, none⟩)) (y_faddr rfl Fa76x1) ?_
  obtain ⟨f3, l6, e0, a7⟩ := box_store (P := Try.prog) a1 [(.slice pa3 pn3 pc3)] [(.int .i64 s_.2.1)] [(.int .i64 s_.2.2.1), (.bool s_.2.2.2)] [(.int .i64 (w64 (s_.2.1 + 1)))] rfl rfl (by intro u hu; simp only [List.mem_cons, List.not_mem_nil, or_false] at hu; rcases hu with rfl <;> rfl)
  refine pl_skip (w' := f3) (ys_store rfl rfl (l6 _ _ rfl Sz3)) ?_
  have hO := hO.fr1
  have h0 := h0.mt e0 hO same_
  have h1 := h1.mt e0 hO same_
  have h2 := h2.mt e0 hO same_
  have h3 := h3.ma e0 hO same_ (fun _ e => (mem_r (mem_l (e))))
  have a0 := a0.ap e0 hO same_ (mem_l (List.mem_singleton.2 rfl))
  have hC := hC.st e0 hO same_
  have hO := hO.ext e0
  have a7 : BoxV f3 a2 76 [(.slice pa3 pn3 pc3), (.int .i64 (w64 (s_.2.1 + 1))), (.int .i64 s_.2.2.1), (.bool s_.2.2.2)] := a7
  refine c_nil ?_
  refine c_seq ?_
  refine c_sr ?_
  refine pl_val (.pointer (some ⟨a2, 0, none⟩)) (y_faddr rfl Fa76x0) ?_
  refine pl_val (.slice pa3 pn3 pc3) (y_load rfl ((box_load Ag47 Sz47 a7 [] [(.slice pa3 pn3 pc3)] [(.int .i64 (w64 (s_.2.1 + 1))), (.int .i64 s_.2.2.1), (.bool s_.2.2.2)] rfl rfl (fun _ => rfl)) _ (Chg.refl _ _))) ?_
  refine pl_val (.int .i64 (s_.1.length : Int)) (y_len' Sl47 (os_len h3) rfl) ?_
  refine pl_val (.pointer (some ⟨a2, 2, none⟩)) (y_faddr rfl Fa76x2) ?_
  refine pl_val (.int .i64 s_.2.2.1) (y_load rfl ((box_load Ag3 Sz3 a7 [(.slice pa3 pn3 pc3), (.int .i64 (w64 (s_.2.1 + 1)))] [(.int .i64 s_.2.2.1)] [(.bool s_.2.2.2)] rfl rfl (fun _ => rfl)) _ (Chg.refl _ _))) ?_
  refine pl_val (.bool (decide ((s_.1.length : Int) < s_.2.2.1))) (y_lss rfl rfl) ?_
  refine c_nil ?_
  obtain ⟨s29, l7, hs⟩ := bind_some hs
  refine c_mid (I := fun a b9 => ∃ (σ : Nat → Value) (c6 : Option Addr) (c7 : Nat) (c8 : Nat) (f4 : List Nat), a = fr 102 (ovl σ [(0, (.int .i64 size)), (1, (.slice pa0 pn0 pc0)), (2, (.slice pa1 pn1 pc1)), (3, (.slice pa2 pn2 pc2)), (9, (.pointer (some ⟨a2, 0, none⟩))), (10, (.pointer (some ⟨a3, 0, none⟩))), (11, (.int .i64 (begun.length : Int)))]) ∧ Chg (pf3 ++ ([])) w b9 ∧ Own (Nw w (pf3 ++ ([]))) M b9 (f4 ++ (([a2]) ++ (([a3]) ++ []))) ∧ (RT.rs (RT.rs (RT.pr (RT.rs (RT.int .i64)) (RT.pr (RT.int .i64) (RT.rs (RT.rs (RT.int .i64))))))).val M b9 (.slice pa0 pn0 pc0) at_ ([]) ∧ (RT.rs (RT.int .i64)).val M b9 (.slice pa1 pn1 pc1) partial_ ([]) ∧ (RT.rs (RT.int .i64)).val M b9 (.slice pa2 pn2 pc2) begun ([]) ∧ BoxV b9 a2 76 [(.slice c6 c7 c8), (.int .i64 (w64 (s_.2.1 + 1))), (.int .i64 s_.2.2.1), (.bool s_.2.2.2)] ∧ BoxV b9 a3 76 [(.slice none 0 0), (.int .i64 0), (.int .i64 0), (.bool false)] ∧ (RT.os 41 (RT.os 3 (RT.int .i64))).val M b9 (.slice c6 c7 c8) s29 f4) ?_ ?_
  ·replace hs := l7
   rcases bif_some hs with ⟨g5, hs⟩ | ⟨g5, hs⟩
   ·refine c_condT (congrArg Value.bool g5) ?_
    refine x_start [5, 7] Mx rfl ?_
    have c0 := Chg.drew f3
    generalize World.drew f3 = l8 at c0 ⊢
    have h0 := h0.ext c0
    have h1 := h1.ext c0
    have h2 := h2.ext c0
    have h3 := h3.ext c0
    have a7 := a7.cn c0
    have a0 := a0.cn c0
    have hC := hC.ext c0
    have hO := hO.ext c0
    have hS := Chg.refl [] l8
    refine x_p 0 (.pointer (some ⟨a2, 0, none⟩)) rfl (by kernel_rfl)  (fun _ => y_faddr rfl Fa76x0) (fun _ => hS) ?_
    refine x_l 1 (.slice pa3 pn3 pc3) rfl (by kernel_rfl)  (fun w' hw' => y_load rfl ((box_load Ag47 Sz47 a7 [] [(.slice pa3 pn3 pc3)] [(.int .i64 (w64 (s_.2.1 + 1))), (.int .i64 s_.2.2.1), (.bool s_.2.2.2)] rfl rfl (fun _ => rfl)) w' hw')) hS ?_
    refine x_p 2 (.slice pa2 pn2 pc2) rfl (by kernel_rfl)  (fun _ => y_move rfl) (fun _ => hS) ?_
    refine x_one (i := 3) (by kernel_rfl) ?_
    obtain ⟨r37, l9, hs⟩ := bind_some hs
    refine xk_call (b := false) rfl  Bd121 rfl (c_spec_l1Own (M := M) begun h2 hO.fut l9) rfl (by rintro _ _ _ ⟨g6, g7, g8, e9, rfl, b6, f5, j7⟩; exact hS.ext b6) ?_
    rintro _ m0 ⟨g6, g7, g8, e9, rfl, b6, f5, j7⟩
    have h0 := h0.ext b6
    have h1 := h1.ext b6
    have h2 := h2.ext b6
    have h3 := h3.ext b6
    have a7 := a7.cn b6
    have a0 := a0.cn b6
    have hC := hC.ext b6
    have hO := Own.join0 hO b6 j7
    have hO := hO.perm (R := e9 ++ (([a2]) ++ (([a3]) ++ (pf3 ++ ([]))))) (by simp)
    have hS := hS.ext b6
    refine x_one (i := 4) (by kernel_rfl) ?_
    obtain ⟨j8, f6, m1, j9, b7, k0⟩ := new_block m0 [(.slice g6 g7 g8)] 41
    refine xk_val (w' := j8) (b := false) (.slice (some ⟨f6, 0, none⟩) 1 1) rfl  (y_bslice rfl (by rw [m1, j9]; kernel_rfl)) rfl (fun _ => hS.ext b7) ?_
    have h0 := h0.ext b7
    have h1 := h1.ext b7
    have h2 := h2.ext b7
    have h3 := h3.ext b7
    have a7 := a7.cn b7
    have a0 := a0.cn b7
    have f5 := f5.ext b7
    have hC := hC.ext b7
    have hO := hO.new1 b7 j9 k0.lt
    have hO := hO.perm (R := (f6 :: ((e9) ++ ([]))) ++ (([a2]) ++ (([a3]) ++ (pf3 ++ ([]))))) (by simp)
    have m2 := hO.nd
    have g9 := os_of_box (r := (RT.os 3 (RT.int .i64))) (M := M) (css := [[(.slice g6 g7 g8)]]) (fps := [(e9 : List Nat)]) (xs := ([r37] : List (List Int))) k0 ⟨(os_unval f5), trivial⟩ (Nat.le_of_ble_eq_true rfl) m2
    have g9 : (RT.os 41 (RT.os 3 (RT.int .i64))).val M j8 (.slice (some ⟨f6, 0, none⟩) 1 1) [r37] (f6 :: ((e9) ++ ([]))) := g9
    have hS := hS.ext b7
    refine x_one (i := 5) (by kernel_rfl) ?_
    obtain ⟨y42, m3, hs⟩ := bind_some hs
    have hO := hO.fr3
    obtain ⟨f7, f8, f9, m4, m5, m6, e1, m7, f0⟩ := app_os Rw47 m3 h3 g9 hO.inM (fun g hg hq => hO.apart g hq (mem_l hg))
    have e8 := os_block h3
    refine xk_val (w' := m4) (b := true) (.slice f7 f8 f9) rfl  (y_append rfl rfl (m6 _)) rfl (fun h => nomatch h) ?_
    have hO := hO.fr1
    have hO := hO.fr1
    have h0 := h0.mt e1 hO e8
    have h1 := h1.mt e1 hO e8
    have h2 := h2.mt e1 hO e8
    have a7 := a7.ap e1 hO e8 (mem_r (mem_l (List.mem_singleton.2 rfl)))
    have a0 := a0.ap e1 hO e8 (mem_r (mem_r (mem_l (List.mem_singleton.2 rfl))))
    have hC := hC.st e1 hO e8
    have hO := hO.eat e1 m7 (os_nodup f0) f0.fpl
    refine x_p 6 (.pointer (some ⟨a2, 0, none⟩)) rfl (by kernel_rfl)  (fun _ => y_faddr rfl Fa76x0) (fun h => nomatch h) ?_
    refine x_one (i := 7) (by kernel_rfl) ?_
    obtain ⟨k1, m8, e2, h4⟩ := box_store (P := Try.prog) a7 [] [(.slice pa3 pn3 pc3)] [(.int .i64 (w64 (s_.2.1 + 1))), (.int .i64 s_.2.2.1), (.bool s_.2.2.2)] [(.slice f7 f8 f9)] rfl rfl (by intro u hu; simp only [List.mem_cons, List.not_mem_nil, or_false] at hu; rcases hu with rfl <;> rfl)
    refine xk_skip (w' := k1) (b := true) rfl (ys_store rfl rfl (m8 _ _ rfl Sz47)) rfl (fun h => nomatch h) ?_
    have hO := hO.fr1
    have h0 := h0.mt e2 hO same_
    have h1 := h1.mt e2 hO same_
    have h2 := h2.mt e2 hO same_
    have a0 := a0.ap e2 hO same_ (mem_r (mem_l (List.mem_singleton.2 rfl)))
    have f0 := f0.ma e2 hO same_ (fun _ e => (mem_l (e)))
    have hC := hC.st e2 hO same_
    have hO := hO.ext e2
    have h4 : BoxV k1 a2 76 [(.slice f7 f8 f9), (.int .i64 (w64 (s_.2.1 + 1))), (.int .i64 s_.2.2.1), (.bool s_.2.2.2)] := h4
    refine x_end (by kernel_rfl) ?_
    clear hS
    cases hs
    have hO := hO.fr2
    have hO := hO.fr1
    have hO := hO.fr2
    exact ⟨_, f7, f8, f9, m5, fr_ovl 102 ⟨rfl, rfl, rfl, rfl, rfl, rfl, rfl, trivial⟩, hC, hO, h0, h1, h2, h4, a0, f0⟩
   refine c_condF (congrArg Value.bool g5) ?_
   refine wp_skip ?_
   cases hs
   have hO := hO.fr1
   have hO := hO.fr1
   have hO := hO.fr2
   exact ⟨_, pa3, pn3, pc3, pf3, fr_ovl 102 ⟨rfl, rfl, rfl, rfl, rfl, rfl, rfl, trivial⟩, hC, hO, h0, h1, h2, a7, a0, h3⟩
  rintro e3 b9 ⟨σ, c6, c7, c8, f4, rfl, hC, hO, h0, h1, h2, a7, a0, h5⟩
  refine c_sr ?_
  refine pl_val (.agg #[(.slice c6 c7 c8), (.int .i64 (w64 (s_.2.1 + 1))), (.int .i64 s_.2.2.1), (.bool s_.2.2.2)]) (y_load rfl ((box_load Ag76 Sz76 a7 [] [(.slice c6 c7 c8), (.int .i64 (w64 (s_.2.1 + 1))), (.int .i64 s_.2.2.1), (.bool s_.2.2.2)] [] rfl rfl (fun h => nomatch h)) _ (Chg.refl _ _))) ?_
  obtain ⟨k2, m9, e4, h6⟩ := box_store (P := Try.prog) a0 [] [(.slice none 0 0), (.int .i64 0), (.int .i64 0), (.bool false)] [] [(.slice c6 c7 c8), (.int .i64 (w64 (s_.2.1 + 1))), (.int .i64 s_.2.2.1), (.bool s_.2.2.2)] rfl rfl (by intro u hu; simp only [List.mem_cons, List.not_mem_nil, or_false] at hu; rcases hu with rfl | rfl | rfl | rfl <;> rfl)
  refine pl_skip (w' := k2) (ys_store rfl rfl (m9 _ _ rfl Sz76)) ?_
  have hO := hO.fr2
  have h0 := h0.mt e4 hO same_
  have h1 := h1.mt e4 hO same_
  have h2 := h2.mt e4 hO same_
  have a7 := a7.ap e4 hO same_ (mem_r (mem_l (List.mem_singleton.2 rfl)))
  have h5 := h5.ma e4 hO same_ (fun _ e => (mem_l (e)))
  have hC := hC.st e4 hO same_
  have hO := hO.ext e4
  have h6 : BoxV k2 a3 76 [(.slice c6 c7 c8), (.int .i64 (w64 (s_.2.1 + 1))), (.int .i64 s_.2.2.1), (.bool s_.2.2.2)] := h6
  refine c_nil ?_
  refine wp_ret ?_
  cases hs
  have hO := hO.drop
  have hO := hO.fr1
  have hO := hO.drop
  exact ⟨_, a3, c6, c7, c8, f4, fr_ovl 102 ⟨rfl, trivial⟩, h6, hC, h5, hO.top⟩
 refine c_condF (congrArg Value.bool g4) ?_
 refine wp_skip ?_
 refine c_seq ?_
 refine c_sr ?_
 refine pl_val (.int .i64 0) (y_assign rfl) ?_
 refine c_nil ?_
 obtain ⟨o201, n0, hs⟩ := bind_some hs
 refine wp_block ?_
 refine wp_iter (id := 0) (I := fun s197 a a6 => ∃ (σ : Nat → Value) (b0 : Option Addr) (b1 : Nat) (b2 : Nat) (b4 : List Nat), a = fr 102 (ovl σ [(0, (.int .i64 size)), (1, (.slice pa0 pn0 pc0)), (2, (.slice pa1 pn1 pc1)), (3, (.slice pa2 pn2 pc2)), (9, (.pointer (some ⟨a2, 0, none⟩))), (10, (.pointer (some ⟨a3, 0, none⟩))), (11, (.int .i64 (begun.length : Int))), (12, (.int .i64 s197.1))]) ∧ Chg (pf3 ++ ([])) w a6 ∧ Own (Nw w (pf3 ++ ([]))) M a6 (b4 ++ (([a3]) ++ (([a2]) ++ []))) ∧ (RT.rs (RT.rs (RT.pr (RT.rs (RT.int .i64)) (RT.pr (RT.int .i64) (RT.rs (RT.rs (RT.int .i64))))))).val M a6 (.slice pa0 pn0 pc0) at_ ([]) ∧ (RT.rs (RT.int .i64)).val M a6 (.slice pa1 pn1 pc1) partial_ ([]) ∧ (RT.rs (RT.int .i64)).val M a6 (.slice pa2 pn2 pc2) begun ([]) ∧ BoxV a6 a2 76 [(.slice b0 b1 b2), (.int .i64 s197.2.2.1), (.int .i64 s197.2.2.2.1), (.bool s197.2.2.2.2)] ∧ BoxV a6 a3 76 [(.slice none 0 0), (.int .i64 0), (.int .i64 0), (.bool false)] ∧ (RT.os 41 (RT.os 3 (RT.int .i64))).val M a6 (.slice b0 b1 b2) s197.2.1 b4) (J := fun s197 a a6 => ∃ (σ : Nat → Value) (c9 : Option Addr) (d0 : Nat) (d1 : Nat) (g0 : List Nat), a = fr 102 (ovl σ [(9, (.pointer (some ⟨a2, 0, none⟩))), (10, (.pointer (some ⟨a3, 0, none⟩)))]) ∧ Chg (pf3 ++ ([])) w a6 ∧ Own (Nw w (pf3 ++ ([]))) M a6 (g0 ++ (([a3]) ++ (([a2]) ++ []))) ∧ (RT.rs (RT.rs (RT.pr (RT.rs (RT.int .i64)) (RT.pr (RT.int .i64) (RT.rs (RT.rs (RT.int .i64))))))).val M a6 (.slice pa0 pn0 pc0) at_ ([]) ∧ (RT.rs (RT.int .i64)).val M a6 (.slice pa1 pn1 pc1) partial_ ([]) ∧ (RT.rs (RT.int .i64)).val M a6 (.slice pa2 pn2 pc2) begun ([]) ∧ BoxV a6 a2 76 [(.slice c9 d0 d1), (.int .i64 s197.2.2.1), (.int .i64 s197.2.2.2.1), (.bool s197.2.2.2.2)] ∧ BoxV a6 a3 76 [(.slice none 0 0), (.int .i64 0), (.int .i64 0), (.bool false)] ∧ (RT.os 41 (RT.os 3 (RT.int .i64))).val M a6 (.slice c9 d0 d1) s197.2.1 g0) (K := (k_spec_l19Go__take4 M w pa3 pn3 pc3 pf3)) ?_ FU (0, s_.1, s_.2.1, s_.2.2.1, s_.2.2.2) o201 _ _ ?_ n0 ?_
 ·rintro s197 o201 a a6 ⟨σ, b0, b1, b2, b4, rfl, hC, hO, h0, h1, h2, a1, a0, a4⟩ hs
  refine c_seq ?_
  refine c_seq ?_
  refine c_mid (I := fun a g1 => ∃ (σ : Nat → Value), a = fr 102 (ovl σ [(0, (.int .i64 size)), (1, (.slice pa0 pn0 pc0)), (2, (.slice pa1 pn1 pc1)), (3, (.slice pa2 pn2 pc2)), (9, (.pointer (some ⟨a2, 0, none⟩))), (10, (.pointer (some ⟨a3, 0, none⟩))), (11, (.int .i64 (begun.length : Int))), (12, (.int .i64 s197.1)), (52, (.bool ((decide (s197.1 < size)) && (!(s197.2.2.2.2 && (decide (0 < s197.2.2.1)))))))]) ∧ Chg [] a6 g1) ?_ ?_
  ·have hMid := Chg.refl [] a6
   refine c_region ?_
   refine pl_val (.int .i64 s197.1) (y_move rfl) ?_
   refine pl_val (.int .i64 size) (y_move rfl) ?_
   refine pl_val (.bool (decide (s197.1 < size))) (y_lss rfl rfl) ?_
   refine pl_val (.bool (decide (s197.1 < size))) (y_move rfl) ?_
   rcases Bool.eq_false_or_eq_true ((decide (s197.1 < size))) with a8 | a8
   ·skip
    refine pl_yes (.pointer (some ⟨a2, 3, none⟩)) (tg := 43) (by kernel_rfl) (congrArg Value.bool a8) (y_faddr rfl Fa76x3) ?_
    refine pl_yes (.bool s197.2.2.2.2) (tg := 43) (by kernel_rfl) (congrArg Value.bool a8) (y_load rfl ((box_load Ag4 Sz4 a1 [(.slice b0 b1 b2), (.int .i64 s197.2.2.1), (.int .i64 s197.2.2.2.1)] [(.bool s197.2.2.2.2)] [] rfl rfl (fun _ => rfl)) _ (Chg.refl _ _))) ?_
    refine pl_yes (.bool s197.2.2.2.2) (tg := 43) (by kernel_rfl) (congrArg Value.bool a8) (y_move rfl) ?_
    rcases Bool.eq_false_or_eq_true (s197.2.2.2.2) with b8 | b8
    ·skip
     refine pl_yes (.pointer (some ⟨a2, 1, none⟩)) (tg := 46) (by kernel_rfl) (congrArg Value.bool b8) (y_faddr rfl Fa76x1) ?_
     refine pl_yes (.int .i64 s197.2.2.1) (tg := 46) (by kernel_rfl) (congrArg Value.bool b8) (y_load rfl ((box_load Ag3 Sz3 a1 [(.slice b0 b1 b2)] [(.int .i64 s197.2.2.1)] [(.int .i64 s197.2.2.2.1), (.bool s197.2.2.2.2)] rfl rfl (fun _ => rfl)) _ (Chg.refl _ _))) ?_
     refine pl_yes (.bool (decide (0 < s197.2.2.1))) (tg := 46) (by kernel_rfl) (congrArg Value.bool b8) (y_gtr rfl rfl) ?_
     refine pl_yes (.bool (s197.2.2.2.2 && (decide (0 < s197.2.2.1)))) (tg := 43) (by kernel_rfl) (congrArg Value.bool a8) (y_pick_t (congrArg Value.bool b8) (congrArg Value.bool (by rw [b8]; rfl))) ?_
     refine pl_yes (.bool (!(s197.2.2.2.2 && (decide (0 < s197.2.2.1))))) (tg := 43) (by kernel_rfl) (congrArg Value.bool a8) (y_not rfl) ?_
     refine pl_val (.bool ((decide (s197.1 < size)) && (!(s197.2.2.2.2 && (decide (0 < s197.2.2.1)))))) (y_pick_t (congrArg Value.bool a8) (congrArg Value.bool (by rw [a8]; rfl))) ?_
     refine c_nil ?_
     exact ⟨_, fr_ovl 102 ⟨rfl, rfl, rfl, rfl, rfl, rfl, rfl, rfl, rfl, trivial⟩, hMid⟩
    refine pl_not (tg := 46) (by kernel_rfl) (congrArg Value.bool b8) ?_
    refine pl_not (tg := 46) (by kernel_rfl) (congrArg Value.bool b8) ?_
    refine pl_not (tg := 46) (by kernel_rfl) (congrArg Value.bool b8) ?_
    refine pl_yes (.bool (s197.2.2.2.2 && (decide (0 < s197.2.2.1)))) (tg := 43) (by kernel_rfl) (congrArg Value.bool a8) (y_pick_f (congrArg Value.bool b8) (congrArg Value.bool (by rw [b8]; rfl))) ?_
    refine pl_yes (.bool (!(s197.2.2.2.2 && (decide (0 < s197.2.2.1))))) (tg := 43) (by kernel_rfl) (congrArg Value.bool a8) (y_not rfl) ?_
    refine pl_val (.bool ((decide (s197.1 < size)) && (!(s197.2.2.2.2 && (decide (0 < s197.2.2.1)))))) (y_pick_t (congrArg Value.bool a8) (congrArg Value.bool (by rw [a8]; rfl))) ?_
    refine c_nil ?_
    exact ⟨_, fr_ovl 102 ⟨rfl, rfl, rfl, rfl, rfl, rfl, rfl, rfl, rfl, trivial⟩, hMid⟩
   refine pl_not (tg := 43) (by kernel_rfl) (congrArg Value.bool a8) ?_
   refine pl_not (tg := 43) (by kernel_rfl) (congrArg Value.bool a8) ?_
   refine pl_not (tg := 43) (by kernel_rfl) (congrArg Value.bool a8) ?_
   refine pl_nou (tg := 46) (by kernel_rfl) rfl ?_
   refine pl_nou (tg := 46) (by kernel_rfl) rfl ?_
   refine pl_nou (tg := 46) (by kernel_rfl) rfl ?_
   refine pl_not (tg := 43) (by kernel_rfl) (congrArg Value.bool a8) ?_
   refine pl_not (tg := 43) (by kernel_rfl) (congrArg Value.bool a8) ?_
   refine pl_val (.bool ((decide (s197.1 < size)) && (!(s197.2.2.2.2 && (decide (0 < s197.2.2.1)))))) (y_pick_f (congrArg Value.bool a8) (congrArg Value.bool (by rw [a8]; rfl))) ?_
   refine c_nil ?_
   exact ⟨_, fr_ovl 102 ⟨rfl, rfl, rfl, rfl, rfl, rfl, rfl, rfl, rfl, trivial⟩, hMid⟩
  rintro e3 g1 ⟨σ, rfl, d2⟩
  have h0 := h0.ext d2
  have h1 := h1.ext d2
  have h2 := h2.ext d2
  have a1 := a1.cn d2
  have a0 := a0.cn d2
  have a4 := a4.ext d2
  have hC := hC.ext d2
  have hO := hO.ext d2
  rcases bif_some hs with ⟨h7, hs⟩ | ⟨h7, hs⟩
  ·refine c_condT (congrArg Value.bool h7) ?_
   refine wp_skip ?_
   refine c_seq ?_
   refine wp_block ?_
   refine c_seq ?_
   refine c_seq ?_
   obtain ⟨s213, n1, hs⟩ := bind_some hs
   refine c_mid (I := fun a k3 => ∃ (σ : Nat → Value), a = fr 102 (ovl σ [(0, (.int .i64 size)), (1, (.slice pa0 pn0 pc0)), (2, (.slice pa1 pn1 pc1)), (3, (.slice pa2 pn2 pc2)), (9, (.pointer (some ⟨a2, 0, none⟩))), (10, (.pointer (some ⟨a3, 0, none⟩))), (11, (.int .i64 (begun.length : Int))), (12, (.int .i64 s197.1)), (67, (.bool s213))]) ∧ Chg [] g1 k3) ?_ ?_
   ·replace hs := n1
    have hMid := Chg.refl [] g1
    refine c_region ?_
    refine pl_val (.slice pa1 pn1 pc1) (y_move rfl) ?_
    refine pl_val (.int .i64 (begun.length : Int)) (y_move rfl) ?_
    obtain ⟨x216, n2, hs⟩ := bind_some hs
    obtain ⟨n3, n4, n5, n6⟩ := rs_idx Sl41 Sz3 h1 n2
    refine pl_val (.pointer (some ⟨n3, n4, none⟩)) (n5 _ _ _ _ _ _ _ _ _ rfl rfl) ?_
    refine pl_val (.int .i64 x216) (y_load rfl ((at_load_int Ag3 Sz3 n6) _ (Chg.refl _ _))) ?_
    refine pl_val (.bool (decide (0 ≤ x216))) (y_geq rfl rfl) ?_
    refine pl_val (.bool (decide (0 ≤ x216))) (y_move rfl) ?_
    rcases bif_some hs with ⟨b3, hs⟩ | ⟨b3, hs⟩
    ·skip
     refine pl_yes (.slice pa1 pn1 pc1) (tg := 60) (by kernel_rfl) (congrArg Value.bool b3) (y_move rfl) ?_
     refine pl_yes (.int .i64 (begun.length : Int)) (tg := 60) (by kernel_rfl) (congrArg Value.bool b3) (y_move rfl) ?_
     obtain ⟨x219, n7, hs⟩ := bind_some hs
     obtain ⟨n8, n9, o0, o1⟩ := rs_idx Sl41 Sz3 h1 n7
     refine pl_yes (.pointer (some ⟨n8, n9, none⟩)) (tg := 60) (by kernel_rfl) (congrArg Value.bool b3) (o0 _ _ _ _ _ _ _ _ _ rfl rfl) ?_
     refine pl_yes (.int .i64 x219) (tg := 60) (by kernel_rfl) (congrArg Value.bool b3) (y_load rfl ((at_load_int Ag3 Sz3 o1) _ (Chg.refl _ _))) ?_
     refine pl_yes (.int .i64 s197.1) (tg := 60) (by kernel_rfl) (congrArg Value.bool b3) (y_move rfl) ?_
     refine pl_yes (.bool (x219 != s197.1)) (tg := 60) (by kernel_rfl) (congrArg Value.bool b3) (y_neq rfl rfl) ?_
     refine pl_val (.bool (x219 != s197.1)) (y_pick_t (congrArg Value.bool b3) rfl) ?_
     refine c_nil ?_
     cases hs
     exact ⟨_, fr_ovl 102 ⟨rfl, rfl, rfl, rfl, rfl, rfl, rfl, rfl, rfl, trivial⟩, hMid⟩
    refine pl_not (tg := 60) (by kernel_rfl) (congrArg Value.bool b3) ?_
    refine pl_not (tg := 60) (by kernel_rfl) (congrArg Value.bool b3) ?_
    refine pl_not (tg := 60) (by kernel_rfl) (congrArg Value.bool b3) ?_
    refine pl_not (tg := 60) (by kernel_rfl) (congrArg Value.bool b3) ?_
    refine pl_not (tg := 60) (by kernel_rfl) (congrArg Value.bool b3) ?_
    refine pl_not (tg := 60) (by kernel_rfl) (congrArg Value.bool b3) ?_
    refine pl_val (.bool false) (y_pick_f (congrArg Value.bool b3) rfl) ?_
    refine c_nil ?_
    cases hs
    exact ⟨_, fr_ovl 102 ⟨rfl, rfl, rfl, rfl, rfl, rfl, rfl, rfl, rfl, trivial⟩, hMid⟩
   rintro e3 k3 ⟨σ, rfl, d3⟩
   have h0 := h0.ext d3
   have h1 := h1.ext d3
   have h2 := h2.ext d3
   have a1 := a1.cn d3
   have a0 := a0.cn d3
   have a4 := a4.ext d3
   have hC := hC.ext d3
   have hO := hO.ext d3
   rcases bif_some hs with ⟨h8, hs⟩ | ⟨h8, hs⟩
   ·refine c_condT (congrArg Value.bool h8) ?_
    refine wp_exit ?_
    refine c_region ?_
    refine pl_val (.int .i64 s197.1) (y_move rfl) ?_
    refine pl_val (.int .i64 (w64 (s197.1 + 1))) (y_add rfl rfl) ?_
    refine pl_val (.int .i64 (w64 (s197.1 + 1))) (y_assign rfl) ?_
    refine c_nil ?_
    cases hs
    have hO := hO.fr2
    have hO := hO.fr2
    have hO := hO.fr2
    exact ⟨_, b0, b1, b2, b4, fr_ovl 102 ⟨rfl, rfl, rfl, rfl, rfl, rfl, rfl, rfl, trivial⟩, hC, hO, h0, h1, h2, a1, a0, a4⟩
   refine c_condF (congrArg Value.bool h8) ?_
   refine wp_skip ?_
   refine c_sr ?_
   refine pl_val (.slice pa2 pn2 pc2) (y_move rfl) ?_
   obtain ⟨r223, o2, hs⟩ := bind_some hs
   refine pl_call Bd121 rfl (c_spec_l1Own (M := M) begun h2 hO.fut o2) ?_
   rintro _ o3 ⟨t4, t5, t6, o4, rfl, d4, g2, o5⟩
   have h0 := h0.ext d4
   have h1 := h1.ext d4
   have h2 := h2.ext d4
   have a1 := a1.cn d4
   have a0 := a0.cn d4
   have a4 := a4.ext d4
   have hC := hC.ext d4
   have hO := Own.join0 hO d4 o5
   have hO := hO.perm (R := o4 ++ (b4 ++ (([a3]) ++ (([a2]) ++ ([]))))) (by simp)
   refine pl_val (.int .i64 s197.1) (y_move rfl) ?_
   obtain ⟨k4, h9, o6, k5, c1, k6⟩ := new_block o3 [(.int .i64 s197.1)] 3
   refine pl_val (w' := k4) (.slice (some ⟨h9, 0, none⟩) 1 1) (y_bslice rfl (by rw [o6, k5]; kernel_rfl)) ?_
   have h0 := h0.ext c1
   have h1 := h1.ext c1
   have h2 := h2.ext c1
   have a1 := a1.cn c1
   have a0 := a0.cn c1
   have a4 := a4.ext c1
   have g2 := g2.ext c1
   have hC := hC.ext c1
   have hO := hO.new1 c1 k5 k6.lt
   have i0 := os_of_box (r := (RT.int .i64)) (M := M) (css := [[(.int .i64 s197.1)]]) (fps := [([] : List Nat)]) (xs := ([s197.1] : List Int)) k6 ⟨⟨rfl, rfl⟩, trivial⟩ (Nat.le_of_ble_eq_true rfl) (List.nodup_cons.2 ⟨(fun h => nomatch h), List.nodup_nil⟩)
   have i0 : (RT.os 3 (RT.int .i64)).val M k4 (.slice (some ⟨h9, 0, none⟩) 1 1) [s197.1] [h9] := i0
   obtain ⟨y228, o7, hs⟩ := bind_some hs
   have hO := hO.fr1
   obtain ⟨c2, c3, c4, o8, d5, o9, d6, p0, a9⟩ := app_os Rw41 o7 g2 i0 hO.inM (fun g hg hq => hO.apart g hq (mem_l hg))
   have e5 := os_block g2
   refine pl_val (w' := o8) (.slice c2 c3 c4) (y_append rfl rfl (o9 _)) ?_
   have hO := hO.fr1
   have hO := hO.fr1
   have h0 := h0.mt d6 hO e5
   have h1 := h1.mt d6 hO e5
   have h2 := h2.mt d6 hO e5
   have a1 := a1.ap d6 hO e5 (mem_r (mem_r (mem_r (mem_l (List.mem_singleton.2 rfl)))))
   have a0 := a0.ap d6 hO e5 (mem_r (mem_r (mem_l (List.mem_singleton.2 rfl))))
   have a4 := a4.ma d6 hO e5 (fun _ e => (mem_r (mem_l (e))))
   have hC := hC.st d6 hO e5
   have hO := hO.eat d6 p0 (os_nodup a9) a9.fpl
   refine pl_val (.slice c2 c3 c4) (y_assign rfl) ?_
   refine c_nil ?_
   refine c_sr ?_
   refine pl_val (.bool true) (y_assign rfl) ?_
   refine c_nil ?_
   refine c_seq ?_
   refine c_sr ?_
   refine pl_val (.int .i64 0) (y_assign rfl) ?_
   refine c_nil ?_
   obtain ⟨o254, p1, hs⟩ := bind_some hs
   refine wp_block ?_
   refine wp_iter (id := 2) (I := fun s250 a a5 => ∃ (σ : Nat → Value), a = fr 102 (ovl σ [(0, (.int .i64 size)), (1, (.slice pa0 pn0 pc0)), (2, (.slice pa1 pn1 pc1)), (3, (.slice pa2 pn2 pc2)), (9, (.pointer (some ⟨a2, 0, none⟩))), (10, (.pointer (some ⟨a3, 0, none⟩))), (11, (.int .i64 (begun.length : Int))), (12, (.int .i64 s197.1)), (13, (.slice c2 c3 c4)), (14, (.bool s250.1)), (15, (.int .i64 s250.2))]) ∧ Chg (pf3 ++ ([])) w a5 ∧ Own (Nw w (pf3 ++ ([]))) M a5 (d5 ++ (b4 ++ (([a3]) ++ (([a2]) ++ [])))) ∧ (RT.rs (RT.rs (RT.pr (RT.rs (RT.int .i64)) (RT.pr (RT.int .i64) (RT.rs (RT.rs (RT.int .i64))))))).val M a5 (.slice pa0 pn0 pc0) at_ ([]) ∧ (RT.rs (RT.int .i64)).val M a5 (.slice pa1 pn1 pc1) partial_ ([]) ∧ (RT.rs (RT.int .i64)).val M a5 (.slice pa2 pn2 pc2) begun ([]) ∧ BoxV a5 a2 76 [(.slice b0 b1 b2), (.int .i64 s197.2.2.1), (.int .i64 s197.2.2.2.1), (.bool s197.2.2.2.2)] ∧ BoxV a5 a3 76 [(.slice none 0 0), (.int .i64 0), (.int .i64 0), (.bool false)] ∧ (RT.os 41 (RT.os 3 (RT.int .i64))).val M a5 (.slice b0 b1 b2) s197.2.1 b4 ∧ (RT.os 3 (RT.int .i64)).val M a5 (.slice c2 c3 c4) y228 d5) (J := fun s250 a a5 => ∃ (σ : Nat → Value), a = fr 102 (ovl σ [(0, (.int .i64 size)), (1, (.slice pa0 pn0 pc0)), (2, (.slice pa1 pn1 pc1)), (3, (.slice pa2 pn2 pc2)), (9, (.pointer (some ⟨a2, 0, none⟩))), (10, (.pointer (some ⟨a3, 0, none⟩))), (11, (.int .i64 (begun.length : Int))), (12, (.int .i64 s197.1)), (13, (.slice c2 c3 c4)), (14, (.bool s250.1))]) ∧ Chg (pf3 ++ ([])) w a5 ∧ Own (Nw w (pf3 ++ ([]))) M a5 (d5 ++ (b4 ++ (([a3]) ++ (([a2]) ++ [])))) ∧ (RT.rs (RT.rs (RT.pr (RT.rs (RT.int .i64)) (RT.pr (RT.int .i64) (RT.rs (RT.rs (RT.int .i64))))))).val M a5 (.slice pa0 pn0 pc0) at_ ([]) ∧ (RT.rs (RT.int .i64)).val M a5 (.slice pa1 pn1 pc1) partial_ ([]) ∧ (RT.rs (RT.int .i64)).val M a5 (.slice pa2 pn2 pc2) begun ([]) ∧ BoxV a5 a2 76 [(.slice b0 b1 b2), (.int .i64 s197.2.2.1), (.int .i64 s197.2.2.2.1), (.bool s197.2.2.2.2)] ∧ BoxV a5 a3 76 [(.slice none 0 0), (.int .i64 0), (.int .i64 0), (.bool false)] ∧ (RT.os 41 (RT.os 3 (RT.int .i64))).val M a5 (.slice b0 b1 b2) s197.2.1 b4 ∧ (RT.os 3 (RT.int .i64)).val M a5 (.slice c2 c3 c4) y228 d5) (K := (k_spec_l19Go__take4 M w pa3 pn3 pc3 pf3)) ?_ FU (true, 0) o254 _ _ ?_ p1 ?_
   ·rintro s250 o254 a a5 ⟨σ, rfl, hC, hO, h0, h1, h2, a1, a0, a4, a9⟩ hs
    refine c_seq ?_
    refine c_seq ?_
    obtain ⟨s256, p2, hs⟩ := bind_some hs
    refine c_mid (I := fun a k7 => ∃ (σ : Nat → Value), a = fr 102 (ovl σ [(0, (.int .i64 size)), (1, (.slice pa0 pn0 pc0)), (2, (.slice pa1 pn1 pc1)), (3, (.slice pa2 pn2 pc2)), (9, (.pointer (some ⟨a2, 0, none⟩))), (10, (.pointer (some ⟨a3, 0, none⟩))), (11, (.int .i64 (begun.length : Int))), (12, (.int .i64 s197.1)), (13, (.slice c2 c3 c4)), (14, (.bool s250.1)), (15, (.int .i64 s250.2)), (82, (.bool s256))]) ∧ Chg [] a5 k7) ?_ ?_
    ·replace hs := p2
     have hMid := Chg.refl [] a5
     refine c_region ?_
     refine pl_val (.int .i64 s250.2) (y_move rfl) ?_
     refine pl_val (.slice pa0 pn0 pc0) (y_move rfl) ?_
     refine pl_val (.int .i64 (begun.length : Int)) (y_move rfl) ?_
     obtain ⟨x259, p3, hs⟩ := bind_some hs
     obtain ⟨p4, p5, p6, p7⟩ := rs_idx Sl117 Sz28 h0 p3
     refine pl_val (.pointer (some ⟨p4, p5, none⟩)) (p6 _ _ _ _ _ _ _ _ _ rfl rfl) ?_
     obtain ⟨t7, p8, k8⟩ := at_load Ag28 Sz28 (fun _ => rfl) p7
     obtain ⟨p9, q0, q1, rfl⟩ := rs_sl k8
     refine pl_val (.slice p9 q0 q1) (y_load rfl (p8 _ (Chg.refl _ _))) ?_
     refine pl_val (.int .i64 (x259.length : Int)) (y_len' Sl28 (rs_len k8) rfl) ?_
     refine pl_val (.bool (decide (s250.2 < (x259.length : Int)))) (y_lss rfl rfl) ?_
     refine pl_val (.bool (decide (s250.2 < (x259.length : Int)))) (y_move rfl) ?_
     rcases bif_some hs with ⟨f1, hs⟩ | ⟨f1, hs⟩
     ·skip
      refine pl_yes (.bool s250.1) (tg := 80) (by kernel_rfl) (congrArg Value.bool f1) (y_move rfl) ?_
      refine pl_val (.bool s250.1) (y_pick_t (congrArg Value.bool f1) rfl) ?_
      refine c_nil ?_
      cases hs
      exact ⟨_, fr_ovl 102 ⟨rfl, rfl, rfl, rfl, rfl, rfl, rfl, rfl, rfl, rfl, rfl, rfl, trivial⟩, hMid⟩
     refine pl_not (tg := 80) (by kernel_rfl) (congrArg Value.bool f1) ?_
     refine pl_val (.bool false) (y_pick_f (congrArg Value.bool f1) rfl) ?_
     refine c_nil ?_
     cases hs
     exact ⟨_, fr_ovl 102 ⟨rfl, rfl, rfl, rfl, rfl, rfl, rfl, rfl, rfl, rfl, rfl, rfl, trivial⟩, hMid⟩
    rintro e3 k7 ⟨σ, rfl, c5⟩
    have h0 := h0.ext c5
    have h1 := h1.ext c5
    have h2 := h2.ext c5
    have a1 := a1.cn c5
    have a0 := a0.cn c5
    have a4 := a4.ext c5
    have a9 := a9.ext c5
    have hC := hC.ext c5
    have hO := hO.ext c5
    rcases bif_some hs with ⟨i1, hs⟩ | ⟨i1, hs⟩
    ·refine c_condT (congrArg Value.bool i1) ?_
     refine wp_skip ?_
     refine c_seq ?_
     refine wp_block ?_
     refine c_region ?_
     refine pl_val (.slice pa0 pn0 pc0) (y_move rfl) ?_
     refine pl_val (.int .i64 (begun.length : Int)) (y_move rfl) ?_
     obtain ⟨x265, q2, hs⟩ := bind_some hs
     obtain ⟨q3, q4, q5, q6⟩ := rs_idx Sl117 Sz28 h0 q2
     refine pl_val (.pointer (some ⟨q3, q4, none⟩)) (q5 _ _ _ _ _ _ _ _ _ rfl rfl) ?_
     obtain ⟨t8, q7, g3⟩ := at_load Ag28 Sz28 (fun _ => rfl) q6
     obtain ⟨q8, q9, r0, rfl⟩ := rs_sl g3
     refine pl_val (.slice q8 q9 r0) (y_load rfl (q7 _ (Chg.refl _ _))) ?_
     refine pl_val (.int .i64 s250.2) (y_move rfl) ?_
     obtain ⟨x269, r1, hs⟩ := bind_some hs
     obtain ⟨r2, r3, r4, r5⟩ := rs_idx Sl28 Sz56 g3 r1
     refine pl_val (.pointer (some ⟨r2, r3, none⟩)) (r4 _ _ _ _ _ _ _ _ _ rfl rfl) ?_
     obtain ⟨t9, r6, r7⟩ := at_load Ag56 Sz56 (by intro h; cases h) r5
     obtain ⟨u0, rfl, r8⟩ := r7
     obtain ⟨u1, u2, rfl, r9, s0⟩ := pr_open r8
     obtain ⟨s1, s2, s3, rfl, i2⟩ := rs_rel r9
     obtain ⟨u3, u4, rfl, s4, s5⟩ := pr_open s0
     obtain rfl := int_rel s4
     obtain ⟨s6, s7, s8, rfl, i3⟩ := rs_rel s5
     refine pl_val (.agg #[(.slice s1 s2 s3), (.int .i64 x269.2.1), (.slice s6 s7 s8)]) (y_load rfl (r6 _ (Chg.refl _ _))) ?_
     refine pl_val (.slice c2 c3 c4) (y_move rfl) ?_
     obtain ⟨r275, s9, hs⟩ := bind_some hs
     refine pl_call Bd130 rfl (c_spec_l19Satisfies (M := (Less M d5)) (x269.1, (x269.2.1, x269.2.2)) y228 (i2.sub Less.sub) (i3.sub Less.sub) (((Frz.os Frz.int)).val a9 Less.sub Less.not) hO.less.fut s9) ?_
     rintro _ u5 ⟨rfl, b5⟩
     have h0 := h0.ext b5
     have h1 := h1.ext b5
     have h2 := h2.ext b5
     have a1 := a1.cn b5
     have a0 := a0.cn b5
     have a4 := a4.ext b5
     have a9 := a9.ext b5
     have g3 := g3.ext b5
     have i2 := i2.ext b5
     have i3 := i3.ext b5
     have hC := hC.ext b5
     have hO := hO.ext b5
     refine pl_val (.bool r275) (y_assign rfl) ?_
     refine c_nil ?_
     refine c_region ?_
     refine pl_val (.int .i64 s250.2) (y_move rfl) ?_
     refine pl_val (.int .i64 (w64 (s250.2 + 1))) (y_add rfl rfl) ?_
     refine pl_val (.int .i64 (w64 (s250.2 + 1))) (y_assign rfl) ?_
     refine c_nil ?_
     cases hs
     have hO := hO.fr3
     have hO := hO.fr3
     have hO := hO.fr3
     have hO := hO.fr3
     exact ⟨_, fr_ovl 102 ⟨rfl, rfl, rfl, rfl, rfl, rfl, rfl, rfl, rfl, rfl, rfl, trivial⟩, hC, hO, h0, h1, h2, a1, a0, a4, a9⟩
    refine c_condF (congrArg Value.bool i1) ?_
    refine wp_exit ?_
    cases hs
    have hO := hO.fr3
    have hO := hO.fr3
    have hO := hO.fr3
    have hO := hO.fr3
    exact ⟨rfl, _, fr_ovl 102 ⟨rfl, rfl, rfl, rfl, rfl, rfl, rfl, rfl, rfl, rfl, trivial⟩, hC, hO, h0, h1, h2, a1, a0, a4, a9⟩
   ·skip
    have hO := hO.fr3
    have hO := hO.fr3
    have hO := hO.fr3
    have hO := hO.fr3
    exact ⟨_, fr_ovl 102 ⟨rfl, rfl, rfl, rfl, rfl, rfl, rfl, rfl, rfl, rfl, rfl, trivial⟩, hC, hO, h0, h1, h2, a1, a0, a4, a9⟩
   cases o254 with
   | nx _ => exact True.intro
   | rt r_ =>
    have hs := after_rt hs
    intro e3 j3 hK
    cases hs
    exact hK
   | br s250 =>
    have hs := after_br hs
    rintro e3 a5 ⟨σ, rfl, hC, hO, h0, h1, h2, a1, a0, a4, a9⟩
    refine c_sr ?_
    refine pl_val (.bool s250.1) (y_move rfl) ?_
    refine c_nil ?_
    rcases bif_some hs with ⟨i4, hs⟩ | ⟨i4, hs⟩
    ·refine c_condT (congrArg Value.bool i4) ?_
     refine c_region ?_
     refine pl_val (.int .i64 size) (y_move rfl) ?_
     refine pl_val (.slice pa0 pn0 pc0) (y_move rfl) ?_
     refine pl_val (.slice pa1 pn1 pc1) (y_move rfl) ?_
     refine pl_val (.slice c2 c3 c4) (y_move rfl) ?_
     refine pl_val (.agg #[(.slice b0 b1 b2), (.int .i64 s197.2.2.1), (.int .i64 s197.2.2.2.1), (.bool s197.2.2.2.2)]) (y_load rfl ((box_load Ag76 Sz76 a1 [] [(.slice b0 b1 b2), (.int .i64 s197.2.2.1), (.int .i64 s197.2.2.2.1), (.bool s197.2.2.2.2)] [] rfl rfl (fun h => nomatch h)) _ (Chg.refl _ _))) ?_
     have hO := hO.fr1
     have i5 := hO
     have i5 := i5.fr1
     have k9 := Own.lend (F := (b4 ++ ([]))) (R := ([a3]) ++ (([a2]) ++ ([]))) (Own.perm (i5.less) (by simp))
     obtain ⟨r278, t0, hs⟩ := bind_some hs
     refine pl_call Bd101 rfl (c_ih (M := (Less M d5)) size at_ partial_ y228 (s197.2.1, s197.2.2.1, s197.2.2.2.1, s197.2.2.2.2) (h0.sub Less.sub) (h1.sub Less.sub) (((Frz.os Frz.int)).val a9 Less.sub Less.not) (a4.sub Less.sub) k9 k9.fut t0) ?_
     rintro _ u6 ⟨i6, i7, i9, l0, rfl, d7, f2, t1⟩
     have hO := hO.fr1
     have hO := hO.fr1
     have hO := hO.perm (R := (b4 ++ ([])) ++ (d5 ++ (([a3]) ++ (([a2]) ++ ([]))))) (by simp)
     have h0 := h0.mt d7 hO same_
     have h1 := h1.mt d7 hO same_
     have h2 := h2.mt d7 hO same_
     have a1 := a1.ap d7 hO same_ (mem_r (mem_r (mem_l (List.mem_singleton.2 rfl))))
     have a0 := a0.ap d7 hO same_ (mem_r (mem_l (List.mem_singleton.2 rfl)))
     have a9 := a9.ma d7 hO same_ (fun _ e => (mem_l (e)))
     have hC := hC.st d7 hO same_
     have hO := Own.join hO d7 t1
     have hO := hO.perm (R := l0 ++ (d5 ++ (([a3]) ++ (([a2]) ++ ([]))))) (by simp)
     have f2 := f2.free (M' := M) (Free.os (Free.os Free.int))
     obtain ⟨l1, t2, d8, j0⟩ := box_store (P := Try.prog) a1 [] [(.slice b0 b1 b2), (.int .i64 s197.2.2.1), (.int .i64 s197.2.2.2.1), (.bool s197.2.2.2.2)] [] [(.slice i6 i7 i9), (.int .i64 r278.2.1), (.int .i64 r278.2.2.1), (.bool r278.2.2.2)] rfl rfl (by intro u hu; simp only [List.mem_cons, List.not_mem_nil, or_false] at hu; rcases hu with rfl | rfl | rfl | rfl <;> rfl)
     refine pl_skip (w' := l1) (ys_store rfl rfl (t2 _ _ rfl Sz76)) ?_
     have hO := hO.fr3
     have h0 := h0.mt d8 hO same_
     have h1 := h1.mt d8 hO same_
     have h2 := h2.mt d8 hO same_
     have a0 := a0.ap d8 hO same_ (mem_r (mem_r (mem_l (List.mem_singleton.2 rfl))))
     have a9 := a9.ma d8 hO same_ (fun _ e => (mem_r (mem_l (e))))
     have f2 := f2.ma d8 hO same_ (fun _ e => (mem_l (e)))
     have hC := hC.st d8 hO same_
     have hO := hO.ext d8
     have j0 : BoxV l1 a2 76 [(.slice i6 i7 i9), (.int .i64 r278.2.1), (.int .i64 r278.2.2.1), (.bool r278.2.2.2)] := j0
     refine c_nil ?_
     refine c_region ?_
     refine pl_val (.int .i64 s197.1) (y_move rfl) ?_
     refine pl_val (.int .i64 (w64 (s197.1 + 1))) (y_add rfl rfl) ?_
     refine pl_val (.int .i64 (w64 (s197.1 + 1))) (y_assign rfl) ?_
     refine c_nil ?_
     cases hs
     have hO := hO.fr2
     have hO := hO.drop
     have hO := hO.fr2
     have hO := hO.fr2
     exact ⟨_, i6, i7, i9, l0, fr_ovl 102 ⟨rfl, rfl, rfl, rfl, rfl, rfl, rfl, rfl, trivial⟩, hC, hO, h0, h1, h2, j0, a0, f2⟩
    refine c_condF (congrArg Value.bool i4) ?_
    refine wp_skip ?_
    refine c_region ?_
    refine pl_val (.int .i64 s197.1) (y_move rfl) ?_
    refine pl_val (.int .i64 (w64 (s197.1 + 1))) (y_add rfl rfl) ?_
    refine pl_val (.int .i64 (w64 (s197.1 + 1))) (y_assign rfl) ?_
    refine c_nil ?_
    cases hs
    have hO := hO.drop
    have hO := hO.fr2
    have hO := hO.fr2
    have hO := hO.fr2
    exact ⟨_, b0, b1, b2, b4, fr_ovl 102 ⟨rfl, rfl, rfl, rfl, rfl, rfl, rfl, rfl, trivial⟩, hC, hO, h0, h1, h2, a1, a0, a4⟩
  refine c_condF (congrArg Value.bool h7) ?_
  refine wp_exit ?_
  cases hs
  have hO := hO.fr2
  have hO := hO.fr2
  have hO := hO.fr2
  exact ⟨rfl, _, b0, b1, b2, b4, fr_ovl 102 ⟨rfl, rfl, trivial⟩, hC, hO, h0, h1, h2, a1, a0, a4⟩
 ·skip
  have hO := hO.fr1
  have hO := hO.fr1
  have hO := hO.fr2
  exact ⟨_, pa3, pn3, pc3, pf3, fr_ovl 102 ⟨rfl, rfl, rfl, rfl, rfl, rfl, rfl, rfl, trivial⟩, hC, hO, h0, h1, h2, a1, a0, h3⟩
 cases o201 with
 | nx _ => exact True.intro
 | rt r_ =>
  have hs := after_rt hs
  intro e3 j3 hK
  cases hs
  exact hK
 | br s197 =>
  have hs := after_br hs
  rintro e3 a6 ⟨σ, c9, d0, d1, g0, rfl, hC, hO, h0, h1, h2, a1, a0, j1⟩
  refine c_sr ?_
  refine pl_val (.agg #[(.slice c9 d0 d1), (.int .i64 s197.2.2.1), (.int .i64 s197.2.2.2.1), (.bool s197.2.2.2.2)]) (y_load rfl ((box_load Ag76 Sz76 a1 [] [(.slice c9 d0 d1), (.int .i64 s197.2.2.1), (.int .i64 s197.2.2.2.1), (.bool s197.2.2.2.2)] [] rfl rfl (fun h => nomatch h)) _ (Chg.refl _ _))) ?_
  obtain ⟨l2, t3, e6, j2⟩ := box_store (P := Try.prog) a0 [] [(.slice none 0 0), (.int .i64 0), (.int .i64 0), (.bool false)] [] [(.slice c9 d0 d1), (.int .i64 s197.2.2.1), (.int .i64 s197.2.2.2.1), (.bool s197.2.2.2.2)] rfl rfl (by intro u hu; simp only [List.mem_cons, List.not_mem_nil, or_false] at hu; rcases hu with rfl | rfl | rfl | rfl <;> rfl)
  refine pl_skip (w' := l2) (ys_store rfl rfl (t3 _ _ rfl Sz76)) ?_
  have hO := hO.fr1
  have h0 := h0.mt e6 hO same_
  have h1 := h1.mt e6 hO same_
  have h2 := h2.mt e6 hO same_
  have a1 := a1.ap e6 hO same_ (mem_r (mem_l (List.mem_singleton.2 rfl)))
  have j1 := j1.ma e6 hO same_ (fun _ e => (mem_l (e)))
  have hC := hC.st e6 hO same_
  have hO := hO.ext e6
  have j2 : BoxV l2 a3 76 [(.slice c9 d0 d1), (.int .i64 s197.2.2.1), (.int .i64 s197.2.2.2.1), (.bool s197.2.2.2.2)] := j2
  refine c_nil ?_
  refine wp_ret ?_
  cases hs
  have hO := hO.drop
  have hO := hO.fr1
  have hO := hO.drop
  exact ⟨_, a3, c9, d0, d1, g0, fr_ovl 102 ⟨rfl, trivial⟩, j2, hC, j1, hO.top⟩

theorem Bd102 : Bodied Try.prog 102 := bodied Try.func102 (by kernel_rfl) rfl

def k_spec_l19Find (M : Nat → Prop) (w0 : World) (r : ((List (List Int)) × Int × Int × Bool)) (a : Act) (w : World) : Prop :=
  ∃ (σ : Nat → Value) (rg10 : Nat) (ra0 : Option Addr) (rn0 rc0 : Nat) (rf0 : List Nat), a = fr 23 (ovl σ [(10, (.pointer (some ⟨rg10, 0, none⟩)))]) ∧ BoxV w rg10 76 [(.slice ra0 rn0 rc0), (.int .i64 r.2.1), (.int .i64 r.2.2.1), (.bool r.2.2.2)] ∧ Chg [] w0 w ∧ (RT.os 41 (RT.os 3 (RT.int .i64))).val M w (.slice ra0 rn0 rc0) r.1 rf0 ∧ Own (Nw w0 []) (fun _ => True) w (rf0 ++ ([]))
def s_spec_l19Find (net : Int × Int × (List ((List Int) × (Int × (List (List Int)))))) (list : List ((List Int) × (Int × (List (List Int))))) (partial_ : List Int) (most : Int) (one : Bool) : Option (((List (List Int)) × Int × Int × Bool)) :=
  (s_spec_l19Most net.1 list).bind fun r8 =>
  (s_spec_l19Go__take4 FU net.2.1 r8 partial_ ([]) ([], 0, most, one)).bind fun r15 =>
  some (r15.1, r15.2.1, r15.2.2.1, r15.2.2.2)
set_option maxHeartbeats 4000000 in
theorem c_spec_l19Find {M : Nat → Prop} {w : World} {pa0 : Option Addr} {pn0 pc0 : Nat} {pa1 : Option Addr} {pn1 pc1 : Nat} {pa2 : Option Addr} {pn2 pc2 : Nat} (net : Int × Int × (List ((List Int) × (Int × (List (List Int)))))) (list : List ((List Int) × (Int × (List (List Int))))) (partial_ : List Int) (most : Int) (one : Bool) (h0 : (RT.rs (RT.pr (RT.rs (RT.int .i64)) (RT.pr (RT.int .i64) (RT.rs (RT.rs (RT.int .i64)))))).val M w (.slice pa0 pn0 pc0) net.2.2 ([])) (h1 : (RT.rs (RT.pr (RT.rs (RT.int .i64)) (RT.pr (RT.int .i64) (RT.rs (RT.rs (RT.int .i64)))))).val M w (.slice pa1 pn1 pc1) list ([])) (h2 : (RT.rs (RT.int .i64)).val M w (.slice pa2 pn2 pc2) partial_ ([])) (hM : ∀ g, w.heap.size ≤ g → M g) {r : ((List (List Int)) × Int × Int × Bool)} (hs : s_spec_l19Find net list partial_ most one = some r) :
    Gives Try.prog 48 [(.agg #[(.int .i64 net.1), (.int .i64 net.2.1), (.slice pa0 pn0 pc0)]), (.slice pa1 pn1 pc1), (.slice pa2 pn2 pc2), (.int .i64 most), (.bool one)] w (fun v w' => ∃ (ra0 : Option Addr) (rn0 rc0 : Nat) (rf0 : List Nat), v = (.agg #[(.slice ra0 rn0 rc0), (.int .i64 r.2.1), (.int .i64 r.2.2.1), (.bool r.2.2.2)]) ∧ Chg [] w w' ∧ (RT.os 41 (RT.os 3 (RT.int .i64))).val M w' (.slice ra0 rn0 rc0) r.1 rf0 ∧ Own (Nw w []) (fun _ => True) w' (rf0 ++ ([]))) := by
 refine calls_fr Try.func48 rfl Try.ntmps48 (Nat.le_of_ble_eq_true rfl) ?_
 have hO := Own.start (N := Nw w []) hM Nw.fut
 have hC := Chg.refl [] w
 unfold s_spec_l19Find at hs
 refine wp_mono (Q := KPost (k_spec_l19Find M w r)) ?_ (fun e a h3 h => ?_)
 rotate_left
 ·cases e
  case ret =>
   obtain ⟨σ, rg10, ra0, rn0, rc0, rf0, rfl, hbrg10, hrest⟩ := h
   exact ret1x Try.results48 (res_cell rfl (box_load Ag76 Sz76 hbrg10 [] _ [] rfl rfl (fun h => nomatch h))) ⟨ra0, rn0, rc0, rf0, rfl, hrest⟩
  all_goals exact (h : False).elim
 refine c_sr ?_
 obtain ⟨e3, b2, f6, e4, c6, a0⟩ := new_block w [(.int .i64 net.1), (.int .i64 net.2.1), (.slice pa0 pn0 pc0)] 30
 refine pl_val (w' := e3) (.pointer (some ⟨b2, 0, none⟩)) (y_box rfl (by rw [f6, e4]; kernel_rfl)) ?_
 have h0 := h0.ext c6
 have h1 := h1.ext c6
 have h2 := h2.ext c6
 have hC := hC.ext c6
 have hO := hO.new1 c6 e4 a0.lt
 obtain ⟨d3, a4, f7, e5, c0, a1⟩ := new_block e3 [(.slice none 0 0), (.int .i64 0), (.int .i64 0), (.bool false)] 76
 refine pl_val (w' := d3) (.pointer (some ⟨a4, 0, none⟩)) (y_alloc (by rw [f7, e5]; kernel_rfl)) ?_
 have h0 := h0.ext c0
 have h1 := h1.ext c0
 have h2 := h2.ext c0
 have a0 := a0.cn c0
 have hC := hC.ext c0
 have hO := hO.new1 c0 e5 a1.lt
 refine c_nil ?_
 refine c_seq ?_
 refine x_start [12] Mx rfl ?_
 have b7 := Chg.drew d3
 generalize World.drew d3 = a5 at b7 ⊢
 have h0 := h0.ext b7
 have h1 := h1.ext b7
 have h2 := h2.ext b7
 have a0 := a0.cn b7
 have a1 := a1.cn b7
 have hC := hC.ext b7
 have hO := hO.ext b7
 have hS := Chg.refl [] a5
 refine x_p 0 (.pointer (some ⟨b2, 1, none⟩)) rfl (by kernel_rfl)  (fun _ => y_faddr rfl Fa30x1) (fun _ => hS) ?_
 refine x_l 1 (.int .i64 net.2.1) rfl (by kernel_rfl)  (fun w' hw' => y_load rfl ((box_load Ag3 Sz3 a0 [(.int .i64 net.1)] [(.int .i64 net.2.1)] [(.slice pa0 pn0 pc0)] rfl rfl (fun _ => rfl)) w' hw')) hS ?_
 refine x_p 2 (.pointer (some ⟨b2, 0, none⟩)) rfl (by kernel_rfl)  (fun _ => y_faddr rfl Fa30x0) (fun _ => hS) ?_
 refine x_l 3 (.int .i64 net.1) rfl (by kernel_rfl)  (fun w' hw' => y_load rfl ((box_load Ag3 Sz3 a0 [] [(.int .i64 net.1)] [(.int .i64 net.2.1), (.slice pa0 pn0 pc0)] rfl rfl (fun _ => rfl)) w' hw')) hS ?_
 refine x_p 4 (.slice pa1 pn1 pc1) rfl (by kernel_rfl)  (fun _ => y_move rfl) (fun _ => hS) ?_
 refine x_p 6 (.slice pa2 pn2 pc2) rfl (by kernel_rfl)  (fun _ => y_move rfl) (fun _ => hS) ?_
 refine x_p 8 (.int .i64 most) rfl (by kernel_rfl)  (fun _ => y_move rfl) (fun _ => hS) ?_
 refine x_p 9 (.bool one) rfl (by kernel_rfl)  (fun _ => y_move rfl) (fun _ => hS) ?_
 refine x_p 10 (.agg #[(.slice none 0 0), (.int .i64 0), (.int .i64 most), (.bool one)]) rfl (by kernel_rfl)  (fun _ => y_build rfl (by kernel_rfl)) (fun _ => hS) ?_
 refine x_two (i := 5) (j := 7) (by kernel_rfl) ?_ ?_
 ·skip
  obtain ⟨r8, d4, hs⟩ := bind_some hs
  refine xk_call (b := false) rfl  Bd102 rfl (c_spec_l19Most (M := M) net.1 list h1 hO.fut d4) rfl (by rintro _ _ _ ⟨f8, f9, g0, rfl, a8, b8⟩; exact hS.ext a8) ?_
  rintro _ a9 ⟨f8, f9, g0, rfl, a8, b8⟩
  have hK := (show Keeps w M (Past M a5 a9) from Keeps.past hC.size)
  have h0 := h0.ext a8
  have h1 := h1.ext a8
  have h2 := h2.ext a8
  have a0 := a0.cn a8
  have a1 := a1.cn a8
  have hC := hC.ext a8
  have hO := hO.past a8
  have h0 := h0.sub (M' := (Past M a5 a9)) (fun g hg => .inl hg.1)
  have h1 := h1.sub (M' := (Past M a5 a9)) (fun g hg => .inl hg.1)
  have h2 := h2.sub (M' := (Past M a5 a9)) (fun g hg => .inl hg.1)
  have hS := hS.ext a8
  refine x_one (i := 7) (by kernel_rfl) ?_
  obtain ⟨d5, c1, g1, e6, b0, e7⟩ := new_block a9 [] 3
  refine xk_val (w' := d5) (b := false) (.slice (some ⟨c1, 0, none⟩) 0 0) rfl  (y_bslice rfl (by rw [g1, e6]; kernel_rfl)) rfl (fun _ => hS.ext b0) ?_
  have h0 := h0.ext b0
  have h1 := h1.ext b0
  have h2 := h2.ext b0
  have a0 := a0.cn b0
  have a1 := a1.cn b0
  have b8 := b8.ext b0
  have hC := hC.ext b0
  have hO := hO.new1 b0 e6 e7.lt
  have b9 := os_of_box (r := (RT.int .i64)) (M := (Past M a5 a9)) (css := []) (fps := []) (xs := ([] : List Int)) e7 trivial (Nat.zero_le _) (List.nodup_cons.2 ⟨(fun h => nomatch h), List.nodup_nil⟩)
  have b9 : (RT.os 3 (RT.int .i64)).val (Past M a5 a9) d5 (.slice (some ⟨c1, 0, none⟩) 0 0) [] [c1] := b9
  have hS := hS.ext b0
  refine x_one (i := 11) (by kernel_rfl) ?_
  have g2 : (RT.os 41 (RT.os 3 (RT.int .i64))).val (Past M a5 a9) d5 (.slice none 0 0) [] [] := os_nil
  have hO := hO.nil
  have hO := hO.fr1
  have hO := hO.fr1
  have d6 := hO
  have d6 := d6.fr1
  have e8 := Own.lend (F := (([]) ++ ([]))) (R := ([a4]) ++ (([b2]) ++ ([]))) (Own.perm (d6.less) (by simp))
  obtain ⟨r15, d7, hs⟩ := bind_some hs
  refine xk_call (b := false) rfl  Bd101 rfl (c_spec_l19Go__take4 FU (M := (Less (Past M a5 a9) ([c1]))) net.2.1 r8 partial_ ([]) ([], 0, most, one) (b8.sub Less.sub) (h2.sub Less.sub) (((Frz.os Frz.int)).val b9 Less.sub Less.not) (g2.sub Less.sub) e8 e8.fut d7) rfl (by rintro _ _ _ ⟨c7, c8, c9, d8, rfl, a2, c2, e9⟩; exact hS.ext a2) ?_
  rintro _ h4 ⟨c7, c8, c9, d8, rfl, a2, c2, e9⟩
  have hO := hO.fr1
  have hO := hO.fr1
  have hO := hO.perm (R := (([]) ++ ([])) ++ (([c1]) ++ (([a4]) ++ (([b2]) ++ ([]))))) (by simp)
  have h0 := h0.mt a2 hO same_
  have h1 := h1.mt a2 hO same_
  have h2 := h2.mt a2 hO same_
  have a0 := a0.ap a2 hO same_ (mem_r (mem_r (mem_l (List.mem_singleton.2 rfl))))
  have a1 := a1.ap a2 hO same_ (mem_r (mem_l (List.mem_singleton.2 rfl)))
  have b8 := b8.mt a2 hO same_
  have b9 := b9.ma a2 hO same_ (fun _ e => (mem_l (e)))
  have hC := hC.st a2 hO same_
  have hO := Own.join hO a2 e9
  have hO := hO.perm (R := d8 ++ (([c1]) ++ (([a4]) ++ (([b2]) ++ ([]))))) (by simp)
  have c2 := c2.free (M' := (Past M a5 a9)) (Free.os (Free.os Free.int))
  have hS := hS.ext a2
  refine x_one (i := 12) (by kernel_rfl) ?_
  obtain ⟨f0, g3, b3, d9⟩ := box_store (P := Try.prog) a1 [] [(.slice none 0 0), (.int .i64 0), (.int .i64 0), (.bool false)] [] [(.slice c7 c8 c9), (.int .i64 r15.2.1), (.int .i64 r15.2.2.1), (.bool r15.2.2.2)] rfl rfl (by intro u hu; simp only [List.mem_cons, List.not_mem_nil, or_false] at hu; rcases hu with rfl | rfl | rfl | rfl <;> rfl)
  refine xk_skip (w' := f0) (b := true) rfl (ys_store rfl rfl (g3 _ _ rfl Sz76)) rfl (fun h => nomatch h) ?_
  have hO := hO.fr2
  have h0 := h0.mt b3 hO same_
  have h1 := h1.mt b3 hO same_
  have h2 := h2.mt b3 hO same_
  have a0 := a0.ap b3 hO same_ (mem_r (mem_r (mem_l (List.mem_singleton.2 rfl))))
  have b8 := b8.mt b3 hO same_
  have b9 := b9.ma b3 hO same_ (fun _ e => (mem_r (mem_l (e))))
  have c2 := c2.ma b3 hO same_ (fun _ e => (mem_l (e)))
  have hC := hC.st b3 hO same_
  have hO := hO.ext b3
  have d9 : BoxV f0 a4 76 [(.slice c7 c8 c9), (.int .i64 r15.2.1), (.int .i64 r15.2.2.1), (.bool r15.2.2.2)] := d9
  refine x_end (by kernel_rfl) ?_
  clear hS
  refine wp_ret ?_
  cases hs
  have hO := hO.drop
  have hO := hO.fr1
  have hO := hO.drop
  have hO := hO.fr1
  have hO := hO.drop
  exact ⟨_, a4, c7, c8, c9, d8, fr_ovl 23 ⟨rfl, trivial⟩, d9, hC, (c2.free (Free.os (Free.os Free.int))), hO.top⟩
 ·skip
  obtain ⟨b1, c3, g4, f1, b4, f2⟩ := new_block a5 [] 3
  refine xk_val (w' := b1) (b := false) (.slice (some ⟨c3, 0, none⟩) 0 0) rfl  (y_bslice rfl (by rw [g4, f1]; kernel_rfl)) rfl (fun _ => hS.ext b4) ?_
  have h0 := h0.ext b4
  have h1 := h1.ext b4
  have h2 := h2.ext b4
  have a0 := a0.cn b4
  have a1 := a1.cn b4
  have hC := hC.ext b4
  have hO := hO.new1 b4 f1 f2.lt
  have a6 := os_of_box (r := (RT.int .i64)) (M := M) (css := []) (fps := []) (xs := ([] : List Int)) f2 trivial (Nat.zero_le _) (List.nodup_cons.2 ⟨(fun h => nomatch h), List.nodup_nil⟩)
  have a6 : (RT.os 3 (RT.int .i64)).val M b1 (.slice (some ⟨c3, 0, none⟩) 0 0) [] [c3] := a6
  have hS := hS.ext b4
  refine x_one (i := 5) (by kernel_rfl) ?_
  obtain ⟨r8, d4, hs⟩ := bind_some hs
  refine xk_call (b := false) rfl  Bd102 rfl (c_spec_l19Most (M := M) net.1 list h1 hO.fut d4) rfl (by rintro _ _ _ ⟨g5, g6, g7, rfl, a7, c4⟩; exact hS.ext a7) ?_
  rintro _ b5 ⟨g5, g6, g7, rfl, a7, c4⟩
  have hK := (show Keeps w M (Past M b1 b5) from Keeps.past hC.size)
  have h0 := h0.ext a7
  have h1 := h1.ext a7
  have h2 := h2.ext a7
  have a0 := a0.cn a7
  have a1 := a1.cn a7
  have a6 := a6.ext a7
  have hC := hC.ext a7
  have hO := hO.past a7
  have h0 := h0.sub (M' := (Past M b1 b5)) (fun g hg => .inl hg.1)
  have h1 := h1.sub (M' := (Past M b1 b5)) (fun g hg => .inl hg.1)
  have h2 := h2.sub (M' := (Past M b1 b5)) (fun g hg => .inl hg.1)
  have a6 := a6.sub (M' := (Past M b1 b5)) (fun g hg => .inl hg.1)
  have hS := hS.ext a7
  refine x_one (i := 11) (by kernel_rfl) ?_
  have g8 : (RT.os 41 (RT.os 3 (RT.int .i64))).val (Past M b1 b5) b5 (.slice none 0 0) [] [] := os_nil
  have hO := hO.nil
  have hO := hO.fr1
  have hO := hO.fr1
  have e0 := hO
  have e0 := e0.fr1
  have f3 := Own.lend (F := (([]) ++ ([]))) (R := ([a4]) ++ (([b2]) ++ ([]))) (Own.perm (e0.less) (by simp))
  obtain ⟨r15, d7, hs⟩ := bind_some hs
  refine xk_call (b := false) rfl  Bd101 rfl (c_spec_l19Go__take4 FU (M := (Less (Past M b1 b5) ([c3]))) net.2.1 r8 partial_ ([]) ([], 0, most, one) (c4.sub Less.sub) (h2.sub Less.sub) (((Frz.os Frz.int)).val a6 Less.sub Less.not) (g8.sub Less.sub) f3 f3.fut d7) rfl (by rintro _ _ _ ⟨d0, d1, d2, e1, rfl, a3, c5, f4⟩; exact hS.ext a3) ?_
  rintro _ h5 ⟨d0, d1, d2, e1, rfl, a3, c5, f4⟩
  have hO := hO.fr1
  have hO := hO.fr1
  have hO := hO.perm (R := (([]) ++ ([])) ++ (([c3]) ++ (([a4]) ++ (([b2]) ++ ([]))))) (by simp)
  have h0 := h0.mt a3 hO same_
  have h1 := h1.mt a3 hO same_
  have h2 := h2.mt a3 hO same_
  have a0 := a0.ap a3 hO same_ (mem_r (mem_r (mem_l (List.mem_singleton.2 rfl))))
  have a1 := a1.ap a3 hO same_ (mem_r (mem_l (List.mem_singleton.2 rfl)))
  have a6 := a6.ma a3 hO same_ (fun _ e => (mem_l (e)))
  have c4 := c4.mt a3 hO same_
  have hC := hC.st a3 hO same_
  have hO := Own.join hO a3 f4
  have hO := hO.perm (R := e1 ++ (([c3]) ++ (([a4]) ++ (([b2]) ++ ([]))))) (by simp)
  have c5 := c5.free (M' := (Past M b1 b5)) (Free.os (Free.os Free.int))
  have hS := hS.ext a3
  refine x_one (i := 12) (by kernel_rfl) ?_
  obtain ⟨f5, g9, b6, e2⟩ := box_store (P := Try.prog) a1 [] [(.slice none 0 0), (.int .i64 0), (.int .i64 0), (.bool false)] [] [(.slice d0 d1 d2), (.int .i64 r15.2.1), (.int .i64 r15.2.2.1), (.bool r15.2.2.2)] rfl rfl (by intro u hu; simp only [List.mem_cons, List.not_mem_nil, or_false] at hu; rcases hu with rfl | rfl | rfl | rfl <;> rfl)
  refine xk_skip (w' := f5) (b := true) rfl (ys_store rfl rfl (g9 _ _ rfl Sz76)) rfl (fun h => nomatch h) ?_
  have hO := hO.fr2
  have h0 := h0.mt b6 hO same_
  have h1 := h1.mt b6 hO same_
  have h2 := h2.mt b6 hO same_
  have a0 := a0.ap b6 hO same_ (mem_r (mem_r (mem_l (List.mem_singleton.2 rfl))))
  have a6 := a6.ma b6 hO same_ (fun _ e => (mem_r (mem_l (e))))
  have c4 := c4.mt b6 hO same_
  have c5 := c5.ma b6 hO same_ (fun _ e => (mem_l (e)))
  have hC := hC.st b6 hO same_
  have hO := hO.ext b6
  have e2 : BoxV f5 a4 76 [(.slice d0 d1 d2), (.int .i64 r15.2.1), (.int .i64 r15.2.2.1), (.bool r15.2.2.2)] := e2
  refine x_end (by kernel_rfl) ?_
  clear hS
  refine wp_ret ?_
  cases hs
  have hO := hO.drop
  have hO := hO.fr1
  have hO := hO.drop
  have hO := hO.fr1
  have hO := hO.drop
  exact ⟨_, a4, d0, d1, d2, e1, fr_ovl 23 ⟨rfl, trivial⟩, e2, hC, (c5.free (Free.os (Free.os Free.int))), hO.top⟩

theorem Bd47 : Bodied Try.prog 47 := bodied Try.func47 (by kernel_rfl) rfl

theorem Bd76 : Bodied Try.prog 76 := bodied Try.func76 (by kernel_rfl) rfl

theorem Bd49 : Bodied Try.prog 49 := bodied Try.func49 (by kernel_rfl) rfl

theorem Bd48 : Bodied Try.prog 48 := bodied Try.func48 (by kernel_rfl) rfl

def k_spec_IsImplied (M : Nat → Prop) (w0 : World) (r : Bool × Bool) (a : Act) (w : World) : Prop :=
  ∃ (σ : Nat → Value) , a = fr 102 (ovl σ [(4, (.bool r.1)), (5, (.bool r.2))]) ∧ Chg [] w0 w
def s_spec_IsImplied (net : Int × Int × (List ((List Int) × (Int × (List (List Int)))))) (c : (List Int) × (Int × (List (List Int)))) : Option (Bool × Bool) :=
  ((s_spec_l19Good (net.1, net.2.1, net.2.2)).bind fun r10 =>
  (bif (!r10) then some true else (s_spec_l19Is net.1 net.2.1 (c.1, (c.2.1, c.2.2))).bind fun r13 =>
  some (!r13))).bind fun s6 =>
  (bif s6 then some (false, false) else (iter (S := Int) (R := Bool × Bool) (fun s123 =>
  (s_spec_l2Pow net.2.1 (c.1.length : Int)).bind fun r130 =>
  (bif (decide (s123 < r130)) then (s_spec_l2Args net.2.1 (c.1.length : Int) s123).bind fun r133 =>
  (s_spec_l14Free net.1).bind fun r143 =>
  (s_spec_l13Has (c.2.1, c.2.2) r133).bind fun r146 =>
  (forC (S := Bool × (List Int)) (R := Bool × Bool) (fun k198 s196 =>
  ((bif s196.1 then (idx c.1 k198).bind fun x209 =>
  (idx s196.2 x209).bind fun x211 =>
  (bif (decide (x211 < 0)) then some true else (idx c.1 k198).bind fun x214 =>
  (idx s196.2 x214).bind fun x216 =>
  (idx r133 k198).bind fun x218 =>
  some (x216 == x218)) else some false)).bind fun s204 =>
  (idx c.1 k198).bind fun x221 =>
  (idx r133 k198).bind fun x223 =>
  (idx s196.2 x221).bind fun x225 =>
  some (.nx (s204, List.set s196.2 (Int.toNat x221) x223))) 0 (r133.length : Int) ((!r146), r143)).bind fun o200 => after o200 (fun r_ => some (.rt r_)) (fun s196 =>
  ((bif s196.1 then (s_spec_l19Find (net.1, net.2.1, net.2.2) net.2.2 s196.2 1 true).bind fun r233 =>
  some (decide (0 < r233.2.1)) else some false)).bind fun s228 =>
  (bif s228 then some (.rt (false, true)) else some (.nx (w64 (s123 + 1))))) else some (.br s123))) FU 0).bind fun o127 => after o127 (fun r_ => some r_) (fun s123 =>
  some (true, true)))
set_option maxHeartbeats 4000000 in
theorem c_spec_IsImplied {M : Nat → Prop} {w : World} {pa0 : Option Addr} {pn0 pc0 : Nat} {pa1 : Option Addr} {pn1 pc1 : Nat} {pa2 : Option Addr} {pn2 pc2 : Nat} (net : Int × Int × (List ((List Int) × (Int × (List (List Int)))))) (c : (List Int) × (Int × (List (List Int)))) (h0 : (RT.rs (RT.pr (RT.rs (RT.int .i64)) (RT.pr (RT.int .i64) (RT.rs (RT.rs (RT.int .i64)))))).val M w (.slice pa0 pn0 pc0) net.2.2 ([])) (h1 : (RT.rs (RT.int .i64)).val M w (.slice pa1 pn1 pc1) c.1 ([])) (h2 : (RT.rs (RT.rs (RT.int .i64))).val M w (.slice pa2 pn2 pc2) c.2.2 ([])) (hM : ∀ g, w.heap.size ≤ g → M g) {r : Bool × Bool} (hs : s_spec_IsImplied net c = some r) :
    Gives Try.prog 26 [(.agg #[(.int .i64 net.1), (.int .i64 net.2.1), (.slice pa0 pn0 pc0)]), (.agg #[(.slice pa1 pn1 pc1), (.int .i64 c.2.1), (.slice pa2 pn2 pc2)])] w (fun v w' => v = (.tuple #[(.bool r.1), (.bool r.2)]) ∧ Chg [] w w') := by
 refine calls_fr Try.func26 rfl Try.ntmps26 (Nat.le_of_ble_eq_true rfl) ?_
 have hO := Own.start (N := Nw w []) hM Nw.fut
 have hC := Chg.refl [] w
 unfold s_spec_IsImplied at hs
 refine wp_mono (Q := KPost (k_spec_IsImplied M w r)) ?_ (fun e a e8 h => ?_)
 rotate_left
 ·cases e
  case ret =>
   obtain ⟨σ, rfl, hrest⟩ := h
   exact ret2x Try.results26 (res_tmp rfl) (res_tmp rfl) ⟨rfl, hrest⟩
  all_goals exact (h : False).elim
 refine c_sr ?_
 obtain ⟨e9, a6, f9, f0, d7, a0⟩ := new_block w [(.int .i64 net.1), (.int .i64 net.2.1), (.slice pa0 pn0 pc0)] 30
 refine pl_val (w' := e9) (.pointer (some ⟨a6, 0, none⟩)) (y_box rfl (by rw [f9, f0]; kernel_rfl)) ?_
 have h0 := h0.ext d7
 have h1 := h1.ext d7
 have h2 := h2.ext d7
 have hC := hC.ext d7
 have hO := hO.new1 d7 f0 a0.lt
 obtain ⟨e2, a7, g0, f1, d4, a1⟩ := new_block e9 [(.slice pa1 pn1 pc1), (.int .i64 c.2.1), (.slice pa2 pn2 pc2)] 56
 refine pl_val (w' := e2) (.pointer (some ⟨a7, 0, none⟩)) (y_box rfl (by rw [g0, f1]; kernel_rfl)) ?_
 have h0 := h0.ext d4
 have h1 := h1.ext d4
 have h2 := h2.ext d4
 have a0 := a0.cn d4
 have hC := hC.ext d4
 have hO := hO.new1 d4 f1 a1.lt
 refine pl_val (.bool false) (y_assign rfl) ?_
 refine pl_val (.bool false) (y_assign rfl) ?_
 refine c_nil ?_
 refine c_seq ?_
 refine c_seq ?_
 obtain ⟨s6, g1, hs⟩ := bind_some hs
 refine c_mid (I := fun a f2 => ∃ (σ : Nat → Value), a = fr 102 (ovl σ [(2, (.pointer (some ⟨a6, 0, none⟩))), (3, (.pointer (some ⟨a7, 0, none⟩))), (4, (.bool false)), (5, (.bool false)), (22, (.bool s6))]) ∧ Chg [] e2 f2) ?_ ?_
 ·replace hs := g1
  have hMid := Chg.refl [] e2
  refine c_region ?_
  refine pl_val (.agg #[(.int .i64 net.1), (.int .i64 net.2.1), (.slice pa0 pn0 pc0)]) (y_load rfl ((box_load Ag30 Sz30 a0 [] [(.int .i64 net.1), (.int .i64 net.2.1), (.slice pa0 pn0 pc0)] [] rfl rfl (fun h => nomatch h)) _ (Chg.refl _ _))) ?_
  obtain ⟨r10, g2, hs⟩ := bind_some hs
  refine pl_call Bd47 rfl (c_spec_l19Good (M := M) (net.1, net.2.1, net.2.2) h0 hO.fut g2) ?_
  rintro _ m1 ⟨rfl, c6⟩
  have h0 := h0.ext c6
  have h1 := h1.ext c6
  have h2 := h2.ext c6
  have a0 := a0.cn c6
  have a1 := a1.cn c6
  have hMid := hMid.ext c6
  have hC := hC.ext c6
  have hO := hO.ext c6
  refine pl_val (.bool (!r10)) (y_not rfl) ?_
  refine pl_val (.bool (!r10)) (y_move rfl) ?_
  rcases bif_some hs with ⟨a8, hs⟩ | ⟨a8, hs⟩
  ·skip
   refine pl_not (tg := 14) (by kernel_rfl) (congrArg Value.bool a8) ?_
   refine pl_not (tg := 14) (by kernel_rfl) (congrArg Value.bool a8) ?_
   refine pl_not (tg := 14) (by kernel_rfl) (congrArg Value.bool a8) ?_
   refine pl_not (tg := 14) (by kernel_rfl) (congrArg Value.bool a8) ?_
   refine pl_not (tg := 14) (by kernel_rfl) (congrArg Value.bool a8) ?_
   refine pl_not (tg := 14) (by kernel_rfl) (congrArg Value.bool a8) ?_
   refine pl_not (tg := 14) (by kernel_rfl) (congrArg Value.bool a8) ?_
   refine pl_val (.bool true) (y_pick_t (congrArg Value.bool a8) rfl) ?_
   refine c_nil ?_
   cases hs
   exact ⟨_, fr_ovl 102 ⟨rfl, rfl, rfl, rfl, rfl, trivial⟩, hMid⟩
  refine pl_yes (.pointer (some ⟨a6, 0, none⟩)) (tg := 14) (by kernel_rfl) (congrArg Value.bool a8) (y_faddr rfl Fa30x0) ?_
  refine pl_yes (.int .i64 net.1) (tg := 14) (by kernel_rfl) (congrArg Value.bool a8) (y_load rfl ((box_load Ag3 Sz3 a0 [] [(.int .i64 net.1)] [(.int .i64 net.2.1), (.slice pa0 pn0 pc0)] rfl rfl (fun _ => rfl)) _ (Chg.refl _ _))) ?_
  refine pl_yes (.pointer (some ⟨a6, 1, none⟩)) (tg := 14) (by kernel_rfl) (congrArg Value.bool a8) (y_faddr rfl Fa30x1) ?_
  refine pl_yes (.int .i64 net.2.1) (tg := 14) (by kernel_rfl) (congrArg Value.bool a8) (y_load rfl ((box_load Ag3 Sz3 a0 [(.int .i64 net.1)] [(.int .i64 net.2.1)] [(.slice pa0 pn0 pc0)] rfl rfl (fun _ => rfl)) _ (Chg.refl _ _))) ?_
  refine pl_yes (.agg #[(.slice pa1 pn1 pc1), (.int .i64 c.2.1), (.slice pa2 pn2 pc2)]) (tg := 14) (by kernel_rfl) (congrArg Value.bool a8) (y_load rfl ((box_load Ag56 Sz56 a1 [] [(.slice pa1 pn1 pc1), (.int .i64 c.2.1), (.slice pa2 pn2 pc2)] [] rfl rfl (fun h => nomatch h)) _ (Chg.refl _ _))) ?_
  obtain ⟨r13, g3, hs⟩ := bind_some hs
  refine pl_cally (tg := 14) (by kernel_rfl) (congrArg Value.bool a8) Bd75 rfl (c_spec_l19Is (M := M) net.1 net.2.1 (c.1, (c.2.1, c.2.2)) h1 h2 hO.fut g3) ?_
  rintro _ m2 ⟨rfl, c7⟩
  have h0 := h0.ext c7
  have h1 := h1.ext c7
  have h2 := h2.ext c7
  have a0 := a0.cn c7
  have a1 := a1.cn c7
  have hMid := hMid.ext c7
  have hC := hC.ext c7
  have hO := hO.ext c7
  refine pl_yes (.bool (!r13)) (tg := 14) (by kernel_rfl) (congrArg Value.bool a8) (y_not rfl) ?_
  refine pl_val (.bool (!r13)) (y_pick_f (congrArg Value.bool a8) rfl) ?_
  refine c_nil ?_
  cases hs
  exact ⟨_, fr_ovl 102 ⟨rfl, rfl, rfl, rfl, rfl, trivial⟩, hMid⟩
 rintro d5 f2 ⟨σ, rfl, d0⟩
 have h0 := h0.ext d0
 have h1 := h1.ext d0
 have h2 := h2.ext d0
 have a0 := a0.cn d0
 have a1 := a1.cn d0
 have hC := hC.ext d0
 have hO := hO.ext d0
 rcases bif_some hs with ⟨e3, hs⟩ | ⟨e3, hs⟩
 ·refine c_condT (congrArg Value.bool e3) ?_
  refine c_sr ?_
  refine pl_val (.bool false) (y_assign rfl) ?_
  refine pl_val (.bool false) (y_assign rfl) ?_
  refine c_nil ?_
  refine wp_ret ?_
  cases hs
  exact ⟨_, fr_ovl 102 ⟨rfl, rfl, trivial⟩, hC⟩
 refine c_condF (congrArg Value.bool e3) ?_
 refine wp_skip ?_
 refine c_seq ?_
 refine c_sr ?_
 refine pl_val (.int .i64 0) (y_assign rfl) ?_
 refine c_nil ?_
 obtain ⟨o127, g4, hs⟩ := bind_some hs
 refine wp_block ?_
 refine wp_iter (id := 0) (I := fun s123 a a9 => ∃ (σ : Nat → Value), a = fr 102 (ovl σ [(2, (.pointer (some ⟨a6, 0, none⟩))), (3, (.pointer (some ⟨a7, 0, none⟩))), (6, (.int .i64 s123))]) ∧ Chg [] w a9 ∧ Own (Nw w []) M a9 (([a7]) ++ (([a6]) ++ [])) ∧ (RT.rs (RT.pr (RT.rs (RT.int .i64)) (RT.pr (RT.int .i64) (RT.rs (RT.rs (RT.int .i64)))))).val M a9 (.slice pa0 pn0 pc0) net.2.2 ([]) ∧ (RT.rs (RT.int .i64)).val M a9 (.slice pa1 pn1 pc1) c.1 ([]) ∧ (RT.rs (RT.rs (RT.int .i64))).val M a9 (.slice pa2 pn2 pc2) c.2.2 ([]) ∧ BoxV a9 a6 30 [(.int .i64 net.1), (.int .i64 net.2.1), (.slice pa0 pn0 pc0)] ∧ BoxV a9 a7 56 [(.slice pa1 pn1 pc1), (.int .i64 c.2.1), (.slice pa2 pn2 pc2)]) (J := fun s123 a a9 => ∃ (σ : Nat → Value), a = fr 102 (ovl σ []) ∧ Chg [] w a9 ∧ Own (Nw w []) M a9 (([a7]) ++ (([a6]) ++ [])) ∧ (RT.rs (RT.pr (RT.rs (RT.int .i64)) (RT.pr (RT.int .i64) (RT.rs (RT.rs (RT.int .i64)))))).val M a9 (.slice pa0 pn0 pc0) net.2.2 ([]) ∧ (RT.rs (RT.int .i64)).val M a9 (.slice pa1 pn1 pc1) c.1 ([]) ∧ (RT.rs (RT.rs (RT.int .i64))).val M a9 (.slice pa2 pn2 pc2) c.2.2 ([]) ∧ BoxV a9 a6 30 [(.int .i64 net.1), (.int .i64 net.2.1), (.slice pa0 pn0 pc0)] ∧ BoxV a9 a7 56 [(.slice pa1 pn1 pc1), (.int .i64 c.2.1), (.slice pa2 pn2 pc2)]) (K := (k_spec_IsImplied M w)) ?_ FU 0 o127 _ _ ?_ g4 ?_
 ·rintro s123 o127 a a9 ⟨σ, rfl, hC, hO, h0, h1, h2, a0, a1⟩ hs
  refine c_seq ?_
  refine c_sr ?_
  refine pl_val (.int .i64 s123) (y_move rfl) ?_
  refine pl_val (.pointer (some ⟨a6, 1, none⟩)) (y_faddr rfl Fa30x1) ?_
  refine pl_val (.int .i64 net.2.1) (y_load rfl ((box_load Ag3 Sz3 a0 [(.int .i64 net.1)] [(.int .i64 net.2.1)] [(.slice pa0 pn0 pc0)] rfl rfl (fun _ => rfl)) _ (Chg.refl _ _))) ?_
  refine pl_val (.pointer (some ⟨a7, 0, none⟩)) (y_faddr rfl Fa56x0) ?_
  refine pl_val (.slice pa1 pn1 pc1) (y_load rfl ((box_load Ag41 Sz41 a1 [] [(.slice pa1 pn1 pc1)] [(.int .i64 c.2.1), (.slice pa2 pn2 pc2)] rfl rfl (fun _ => rfl)) _ (Chg.refl _ _))) ?_
  refine pl_val (.int .i64 (c.1.length : Int)) (y_len' Sl41 (rs_len h1) rfl) ?_
  obtain ⟨r130, g5, hs⟩ := bind_some hs
  refine pl_call Bd58 rfl (c_spec_l2Pow (M := M) net.2.1 (c.1.length : Int)  hO.fut g5) ?_
  rintro _ m3 ⟨rfl, d1⟩
  have h0 := h0.ext d1
  have h1 := h1.ext d1
  have h2 := h2.ext d1
  have a0 := a0.cn d1
  have a1 := a1.cn d1
  have hC := hC.ext d1
  have hO := hO.ext d1
  refine pl_val (.bool (decide (s123 < r130))) (y_lss rfl rfl) ?_
  refine c_nil ?_
  rcases bif_some hs with ⟨e4, hs⟩ | ⟨e4, hs⟩
  ·refine c_condT (congrArg Value.bool e4) ?_
   refine wp_skip ?_
   refine c_seq ?_
   refine wp_block ?_
   refine c_sr ?_
   refine pl_val (.pointer (some ⟨a6, 1, none⟩)) (y_faddr rfl Fa30x1) ?_
   refine pl_val (.int .i64 net.2.1) (y_load rfl ((box_load Ag3 Sz3 a0 [(.int .i64 net.1)] [(.int .i64 net.2.1)] [(.slice pa0 pn0 pc0)] rfl rfl (fun _ => rfl)) _ (Chg.refl _ _))) ?_
   refine pl_val (.pointer (some ⟨a7, 0, none⟩)) (y_faddr rfl Fa56x0) ?_
   refine pl_val (.slice pa1 pn1 pc1) (y_load rfl ((box_load Ag41 Sz41 a1 [] [(.slice pa1 pn1 pc1)] [(.int .i64 c.2.1), (.slice pa2 pn2 pc2)] rfl rfl (fun _ => rfl)) _ (Chg.refl _ _))) ?_
   refine pl_val (.int .i64 (c.1.length : Int)) (y_len' Sl41 (rs_len h1) rfl) ?_
   refine pl_val (.int .i64 s123) (y_move rfl) ?_
   obtain ⟨r133, g6, hs⟩ := bind_some hs
   refine pl_call Bd76 rfl (c_spec_l2Args (M := M) net.2.1 (c.1.length : Int) s123  hO.fut g6) ?_
   rintro _ f3 ⟨b8, b9, c0, c8, rfl, d2, a2, g7⟩
   have h0 := h0.ext d2
   have h1 := h1.ext d2
   have h2 := h2.ext d2
   have a0 := a0.cn d2
   have a1 := a1.cn d2
   have hC := hC.ext d2
   have hO := Own.join0 hO d2 g7
   have hO := hO.perm (R := c8 ++ (([a7]) ++ (([a6]) ++ ([])))) (by simp)
   refine pl_val (.slice b8 b9 c0) (y_assign rfl) ?_
   refine c_nil ?_
   refine c_seq ?_
   refine x_start [] Mx rfl ?_
   have c3 := Chg.drew f3
   generalize World.drew f3 = g8 at c3 ⊢
   have h0 := h0.ext c3
   have h1 := h1.ext c3
   have h2 := h2.ext c3
   have a0 := a0.cn c3
   have a1 := a1.cn c3
   have a2 := a2.ext c3
   have hC := hC.ext c3
   have hO := hO.ext c3
   have hS := Chg.refl [] g8
   refine x_p 0 (.pointer (some ⟨a6, 0, none⟩)) rfl (by kernel_rfl)  (fun _ => y_faddr rfl Fa30x0) (fun _ => hS) ?_
   refine x_l 1 (.int .i64 net.1) rfl (by kernel_rfl)  (fun w' hw' => y_load rfl ((box_load Ag3 Sz3 a0 [] [(.int .i64 net.1)] [(.int .i64 net.2.1), (.slice pa0 pn0 pc0)] rfl rfl (fun _ => rfl)) w' hw')) hS ?_
   refine x_p 3 (.pointer (some ⟨a7, 1, none⟩)) rfl (by kernel_rfl)  (fun _ => y_faddr rfl Fa56x1) (fun _ => hS) ?_
   refine x_l 4 (.agg #[(.int .i64 c.2.1), (.slice pa2 pn2 pc2)]) rfl (by kernel_rfl)  (fun w' hw' => y_load rfl ((box_load Ag54 Sz54 a1 [(.slice pa1 pn1 pc1)] [(.int .i64 c.2.1), (.slice pa2 pn2 pc2)] [] rfl rfl (fun h => nomatch h)) w' hw')) hS ?_
   refine x_p 5 (.slice b8 b9 c0) rfl (by kernel_rfl)  (fun _ => y_move rfl) (fun _ => hS) ?_
   refine x_one (i := 2) (by kernel_rfl) ?_
   obtain ⟨r143, g9, hs⟩ := bind_some hs
   refine xk_call (b := false) rfl  Bd49 rfl (c_spec_l14Free (M := M) net.1  hO.fut g9) rfl (by rintro _ _ _ ⟨b3, b4, b5, e5, rfl, b6, e0, f4⟩; exact hS.ext b6) ?_
   rintro _ m4 ⟨b3, b4, b5, e5, rfl, b6, e0, f4⟩
   have h0 := h0.ext b6
   have h1 := h1.ext b6
   have h2 := h2.ext b6
   have a0 := a0.cn b6
   have a1 := a1.cn b6
   have a2 := a2.ext b6
   have hC := hC.ext b6
   have hO := Own.join0 hO b6 f4
   have hO := hO.perm (R := e5 ++ (c8 ++ (([a7]) ++ (([a6]) ++ ([]))))) (by simp)
   have hS := hS.ext b6
   refine x_one (i := 6) (by kernel_rfl) ?_
   have hO := hO.fr1
   obtain ⟨r146, h3, hs⟩ := bind_some hs
   refine xk_call (b := false) rfl  Bd77 rfl (c_spec_l13Has (M := (Less M c8)) (c.2.1, c.2.2) r133 (h2.sub Less.sub) (((Frz.os Frz.int)).val a2 Less.sub Less.not) hO.less.fut h3) rfl (by rintro _ _ _ ⟨rfl, b2⟩; exact hS.ext b2) ?_
   rintro _ m5 ⟨rfl, b2⟩
   have h0 := h0.ext b2
   have h1 := h1.ext b2
   have h2 := h2.ext b2
   have a0 := a0.cn b2
   have a1 := a1.cn b2
   have a2 := a2.ext b2
   have e0 := e0.ext b2
   have hC := hC.ext b2
   have hO := hO.ext b2
   have hS := hS.ext b2
   refine x_p 7 (.bool (!r146)) rfl (by kernel_rfl)  (fun _ => y_not rfl) (fun _ => hS) ?_
   refine x_p 8 (.slice b3 b4 b5) rfl (by kernel_rfl)  (fun _ => y_assign rfl) (fun _ => hS) ?_
   refine x_p 9 (.bool (!r146)) rfl (by kernel_rfl)  (fun _ => y_assign rfl) (fun _ => hS) ?_
   refine x_end (by kernel_rfl) ?_
   clear hS
   refine c_seq ?_
   refine c_sr ?_
   refine pl_val (.int .i64 0) (y_assign rfl) ?_
   refine c_nil ?_
   obtain ⟨o200, h4, hs⟩ := bind_some hs
   refine wp_block ?_
   refine wp_forC (id := 2) (r133.length : Int) (I := fun k198 s196 a a4 => ∃ (σ : Nat → Value) (d6 : List Nat), a = fr 102 (ovl σ [(2, (.pointer (some ⟨a6, 0, none⟩))), (3, (.pointer (some ⟨a7, 0, none⟩))), (6, (.int .i64 s123)), (7, (.slice b8 b9 c0)), (8, (.slice b3 b4 b5)), (9, (.bool s196.1)), (10, (.int .i64 k198))]) ∧ Chg [] w a4 ∧ Own (Nw w []) M a4 (c8 ++ (d6 ++ (([a7]) ++ (([a6]) ++ [])))) ∧ (RT.rs (RT.pr (RT.rs (RT.int .i64)) (RT.pr (RT.int .i64) (RT.rs (RT.rs (RT.int .i64)))))).val M a4 (.slice pa0 pn0 pc0) net.2.2 ([]) ∧ (RT.rs (RT.int .i64)).val M a4 (.slice pa1 pn1 pc1) c.1 ([]) ∧ (RT.rs (RT.rs (RT.int .i64))).val M a4 (.slice pa2 pn2 pc2) c.2.2 ([]) ∧ BoxV a4 a6 30 [(.int .i64 net.1), (.int .i64 net.2.1), (.slice pa0 pn0 pc0)] ∧ BoxV a4 a7 56 [(.slice pa1 pn1 pc1), (.int .i64 c.2.1), (.slice pa2 pn2 pc2)] ∧ (RT.os 3 (RT.int .i64)).val M a4 (.slice b8 b9 c0) r133 c8 ∧ (RT.os 3 (RT.int .i64)).val M a4 (.slice b3 b4 b5) s196.2 d6) (J := fun s196 a a4 => ∃ (σ : Nat → Value) (d8 : List Nat), a = fr 102 (ovl σ [(2, (.pointer (some ⟨a6, 0, none⟩))), (3, (.pointer (some ⟨a7, 0, none⟩))), (6, (.int .i64 s123)), (8, (.slice b3 b4 b5)), (9, (.bool s196.1))]) ∧ Chg [] w a4 ∧ Own (Nw w []) M a4 (c8 ++ (d8 ++ (([a7]) ++ (([a6]) ++ [])))) ∧ (RT.rs (RT.pr (RT.rs (RT.int .i64)) (RT.pr (RT.int .i64) (RT.rs (RT.rs (RT.int .i64)))))).val M a4 (.slice pa0 pn0 pc0) net.2.2 ([]) ∧ (RT.rs (RT.int .i64)).val M a4 (.slice pa1 pn1 pc1) c.1 ([]) ∧ (RT.rs (RT.rs (RT.int .i64))).val M a4 (.slice pa2 pn2 pc2) c.2.2 ([]) ∧ BoxV a4 a6 30 [(.int .i64 net.1), (.int .i64 net.2.1), (.slice pa0 pn0 pc0)] ∧ BoxV a4 a7 56 [(.slice pa1 pn1 pc1), (.int .i64 c.2.1), (.slice pa2 pn2 pc2)] ∧ (RT.os 3 (RT.int .i64)).val M a4 (.slice b8 b9 c0) r133 c8 ∧ (RT.os 3 (RT.int .i64)).val M a4 (.slice b3 b4 b5) s196.2 d8) (K := (k_spec_IsImplied M w)) ?_ ?_ 0 ((!r146), r143) o200 _ _ ?_ h4 ?_
   ·rintro k198 s196 a a4 ⟨σ, d6, rfl, hC, hO, h0, h1, h2, a0, a1, a2, b1⟩ hlt
    refine c_seq ?_
    refine c_sr ?_
    refine pl_val (.int .i64 k198) (y_move rfl) ?_
    refine pl_val (.slice b8 b9 c0) (y_move rfl) ?_
    refine pl_val (.int .i64 (r133.length : Int)) (y_len' Sl41 (os_len a2) rfl) ?_
    refine pl_val (.bool (decide (k198 < (r133.length : Int)))) (y_lss rfl rfl) ?_
    refine c_nil ?_
    refine c_condF (congrArg Value.bool (decide_eq_false hlt)) ?_
    refine wp_exit ?_
    have hO := hO.fr3
    have hO := hO.fr3
    have hO := hO.fr3
    have hO := hO.fr3
    exact ⟨rfl, _, d6, fr_ovl 102 ⟨rfl, rfl, rfl, rfl, rfl, trivial⟩, hC, hO, h0, h1, h2, a0, a1, a2, b1⟩
   ·rintro k198 s196 o200 a a4 ⟨σ, d6, rfl, hC, hO, h0, h1, h2, a0, a1, a2, b1⟩ hlt hw hs
    refine c_seq ?_
    refine c_sr ?_
    refine pl_val (.int .i64 k198) (y_move rfl) ?_
    refine pl_val (.slice b8 b9 c0) (y_move rfl) ?_
    refine pl_val (.int .i64 (r133.length : Int)) (y_len' Sl41 (os_len a2) rfl) ?_
    refine pl_val (.bool (decide (k198 < (r133.length : Int)))) (y_lss rfl rfl) ?_
    refine c_nil ?_
    refine c_condT (congrArg Value.bool (decide_eq_true hlt)) ?_
    refine wp_skip ?_
    refine c_seq ?_
    refine wp_block ?_
    refine c_seq ?_
    obtain ⟨s204, h5, hs⟩ := bind_some hs
    refine c_mid (I := fun a e1 => ∃ (σ : Nat → Value), a = fr 102 (ovl σ [(2, (.pointer (some ⟨a6, 0, none⟩))), (3, (.pointer (some ⟨a7, 0, none⟩))), (6, (.int .i64 s123)), (7, (.slice b8 b9 c0)), (8, (.slice b3 b4 b5)), (10, (.int .i64 k198)), (9, (.bool s204))]) ∧ Chg [] a4 e1) ?_ ?_
    ·replace hs := h5
     have hMid := Chg.refl [] a4
     refine x_start [] Mx rfl ?_
     have b7 := Chg.drew a4
     generalize World.drew a4 = h6 at b7 ⊢
     have h0 := h0.ext b7
     have h1 := h1.ext b7
     have h2 := h2.ext b7
     have a0 := a0.cn b7
     have a1 := a1.cn b7
     have a2 := a2.ext b7
     have b1 := b1.ext b7
     have hMid := hMid.ext b7
     have hC := hC.ext b7
     have hO := hO.ext b7
     have hS := Chg.refl [] h6
     refine x_p 0 (.bool s196.1) rfl (by kernel_rfl)  (fun _ => y_move rfl) (fun _ => hS) ?_
     refine x_p 1 (.bool s196.1) rfl (by kernel_rfl)  (fun _ => y_move rfl) (fun _ => hS) ?_
     rcases bif_some hs with ⟨a5, hs⟩ | ⟨a5, hs⟩
     ·skip
      refine x_py 2 (.slice b3 b4 b5) rfl (by kernel_rfl) (tg := 55) (by kernel_rfl) (congrArg Value.bool a5) (fun _ => y_move rfl) (fun _ => hS) ?_
      refine x_py 3 (.pointer (some ⟨a7, 0, none⟩)) rfl (by kernel_rfl) (tg := 55) (by kernel_rfl) (congrArg Value.bool a5) (fun _ => y_faddr rfl Fa56x0) (fun _ => hS) ?_
      refine x_ly 4 (.slice pa1 pn1 pc1) rfl (by kernel_rfl) (tg := 55) (by kernel_rfl) (congrArg Value.bool a5) (fun w' hw' => y_load rfl ((box_load Ag41 Sz41 a1 [] [(.slice pa1 pn1 pc1)] [(.int .i64 c.2.1), (.slice pa2 pn2 pc2)] rfl rfl (fun _ => rfl)) w' hw')) hS ?_
      refine x_py 5 (.int .i64 k198) rfl (by kernel_rfl) (tg := 55) (by kernel_rfl) (congrArg Value.bool a5) (fun _ => y_move rfl) (fun _ => hS) ?_
      obtain ⟨x209, h7, hs⟩ := bind_some hs
      obtain ⟨h8, h9, i0, i1⟩ := rs_idx Sl41 Sz3 h1 h7
      refine x_py 6 (.pointer (some ⟨h8, h9, none⟩)) rfl (by kernel_rfl) (tg := 55) (by kernel_rfl) (congrArg Value.bool a5) (fun _ => i0 _ _ _ _ _ _ _ _ _ rfl rfl) (fun _ => hS) ?_
      refine x_ly 7 (.int .i64 x209) rfl (by kernel_rfl) (tg := 55) (by kernel_rfl) (congrArg Value.bool a5) (fun w' hw' => y_load rfl ((at_load_int Ag3 Sz3 i1) w' hw')) hS ?_
      obtain ⟨x211, i2, hs⟩ := bind_some hs
      obtain ⟨i3, m6, m7, m8, i4, i5, m9⟩ := os_idx Sl41 Sz3 b1 i2
      refine x_py 8 (.pointer (some ⟨i3, 0 + Int.toNat x209 * 1, none⟩)) rfl (by kernel_rfl) (tg := 55) (by kernel_rfl) (congrArg Value.bool a5) (fun _ => i4 _ _ _ _ _ _ _ _ _ rfl rfl) (fun _ => hS) ?_
      refine x_ly 9 (.int .i64 x211) rfl (by kernel_rfl) (tg := 55) (by kernel_rfl) (congrArg Value.bool a5) (fun w' hw' => y_load rfl ((at_load_int Ag3 Sz3 i5) w' hw')) hS ?_
      refine x_py 10 (.bool (decide (x211 < 0))) rfl (by kernel_rfl) (tg := 55) (by kernel_rfl) (congrArg Value.bool a5) (fun _ => y_lss rfl rfl) (fun _ => hS) ?_
      refine x_py 11 (.bool (decide (x211 < 0))) rfl (by kernel_rfl) (tg := 55) (by kernel_rfl) (congrArg Value.bool a5) (fun _ => y_move rfl) (fun _ => hS) ?_
      rcases bif_some hs with ⟨a3, hs⟩ | ⟨a3, hs⟩
      ·skip
       refine x_pn 12 rfl (by kernel_rfl) (tg := 65) (by kernel_rfl) (congrArg Value.bool a3) (fun _ => hS) ?_
       refine x_pn 13 rfl (by kernel_rfl) (tg := 65) (by kernel_rfl) (congrArg Value.bool a3) (fun _ => hS) ?_
       refine x_pn 14 rfl (by kernel_rfl) (tg := 65) (by kernel_rfl) (congrArg Value.bool a3) (fun _ => hS) ?_
       refine x_pn 15 rfl (by kernel_rfl) (tg := 65) (by kernel_rfl) (congrArg Value.bool a3) (fun _ => hS) ?_
       refine x_pn 16 rfl (by kernel_rfl) (tg := 65) (by kernel_rfl) (congrArg Value.bool a3) (fun _ => hS) ?_
       refine x_pn 17 rfl (by kernel_rfl) (tg := 65) (by kernel_rfl) (congrArg Value.bool a3) (fun _ => hS) ?_
       refine x_pn 18 rfl (by kernel_rfl) (tg := 65) (by kernel_rfl) (congrArg Value.bool a3) (fun _ => hS) ?_
       refine x_pn 19 rfl (by kernel_rfl) (tg := 65) (by kernel_rfl) (congrArg Value.bool a3) (fun _ => hS) ?_
       refine x_pn 20 rfl (by kernel_rfl) (tg := 65) (by kernel_rfl) (congrArg Value.bool a3) (fun _ => hS) ?_
       refine x_pn 21 rfl (by kernel_rfl) (tg := 65) (by kernel_rfl) (congrArg Value.bool a3) (fun _ => hS) ?_
       refine x_pn 22 rfl (by kernel_rfl) (tg := 65) (by kernel_rfl) (congrArg Value.bool a3) (fun _ => hS) ?_
       refine x_pn 23 rfl (by kernel_rfl) (tg := 65) (by kernel_rfl) (congrArg Value.bool a3) (fun _ => hS) ?_
       refine x_pn 24 rfl (by kernel_rfl) (tg := 65) (by kernel_rfl) (congrArg Value.bool a3) (fun _ => hS) ?_
       refine x_py 25 (.bool true) rfl (by kernel_rfl) (tg := 55) (by kernel_rfl) (congrArg Value.bool a5) (fun _ => y_pick_t (congrArg Value.bool a3) rfl) (fun _ => hS) ?_
       refine x_p 26 (.bool true) rfl (by kernel_rfl)  (fun _ => y_pick_t (congrArg Value.bool a5) rfl) (fun _ => hS) ?_
       refine x_p 27 (.bool true) rfl (by kernel_rfl)  (fun _ => y_assign rfl) (fun _ => hS) ?_
       refine x_end (by kernel_rfl) ?_
       clear hS
       cases hs
       exact ⟨_, fr_ovl 102 ⟨rfl, rfl, rfl, rfl, rfl, rfl, rfl, trivial⟩, hMid⟩
      refine x_py 12 (.slice b3 b4 b5) rfl (by kernel_rfl) (tg := 65) (by kernel_rfl) (congrArg Value.bool a3) (fun _ => y_move rfl) (fun _ => hS) ?_
      refine x_py 13 (.pointer (some ⟨a7, 0, none⟩)) rfl (by kernel_rfl) (tg := 65) (by kernel_rfl) (congrArg Value.bool a3) (fun _ => y_faddr rfl Fa56x0) (fun _ => hS) ?_
      refine x_ly 14 (.slice pa1 pn1 pc1) rfl (by kernel_rfl) (tg := 65) (by kernel_rfl) (congrArg Value.bool a3) (fun w' hw' => y_load rfl ((box_load Ag41 Sz41 a1 [] [(.slice pa1 pn1 pc1)] [(.int .i64 c.2.1), (.slice pa2 pn2 pc2)] rfl rfl (fun _ => rfl)) w' hw')) hS ?_
      refine x_py 15 (.int .i64 k198) rfl (by kernel_rfl) (tg := 65) (by kernel_rfl) (congrArg Value.bool a3) (fun _ => y_move rfl) (fun _ => hS) ?_
      obtain ⟨x214, i6, hs⟩ := bind_some hs
      obtain ⟨i7, i9, j0, j1⟩ := rs_idx Sl41 Sz3 h1 i6
      refine x_py 16 (.pointer (some ⟨i7, i9, none⟩)) rfl (by kernel_rfl) (tg := 65) (by kernel_rfl) (congrArg Value.bool a3) (fun _ => j0 _ _ _ _ _ _ _ _ _ rfl rfl) (fun _ => hS) ?_
      refine x_ly 17 (.int .i64 x214) rfl (by kernel_rfl) (tg := 65) (by kernel_rfl) (congrArg Value.bool a3) (fun w' hw' => y_load rfl ((at_load_int Ag3 Sz3 j1) w' hw')) hS ?_
      obtain ⟨x216, j2, hs⟩ := bind_some hs
      obtain ⟨j3, n0, n1, n2, j4, j5, n3⟩ := os_idx Sl41 Sz3 b1 j2
      refine x_py 18 (.pointer (some ⟨j3, 0 + Int.toNat x214 * 1, none⟩)) rfl (by kernel_rfl) (tg := 65) (by kernel_rfl) (congrArg Value.bool a3) (fun _ => j4 _ _ _ _ _ _ _ _ _ rfl rfl) (fun _ => hS) ?_
      refine x_ly 19 (.int .i64 x216) rfl (by kernel_rfl) (tg := 65) (by kernel_rfl) (congrArg Value.bool a3) (fun w' hw' => y_load rfl ((at_load_int Ag3 Sz3 j5) w' hw')) hS ?_
      refine x_py 20 (.slice b8 b9 c0) rfl (by kernel_rfl) (tg := 65) (by kernel_rfl) (congrArg Value.bool a3) (fun _ => y_move rfl) (fun _ => hS) ?_
      refine x_py 21 (.int .i64 k198) rfl (by kernel_rfl) (tg := 65) (by kernel_rfl) (congrArg Value.bool a3) (fun _ => y_move rfl) (fun _ => hS) ?_
      obtain ⟨x218, j6, hs⟩ := bind_some hs
      obtain ⟨j7, n4, n5, n6, j8, j9, n7⟩ := os_idx Sl41 Sz3 a2 j6
      refine x_py 22 (.pointer (some ⟨j7, 0 + Int.toNat k198 * 1, none⟩)) rfl (by kernel_rfl) (tg := 65) (by kernel_rfl) (congrArg Value.bool a3) (fun _ => j8 _ _ _ _ _ _ _ _ _ rfl rfl) (fun _ => hS) ?_
      refine x_ly 23 (.int .i64 x218) rfl (by kernel_rfl) (tg := 65) (by kernel_rfl) (congrArg Value.bool a3) (fun w' hw' => y_load rfl ((at_load_int Ag3 Sz3 j9) w' hw')) hS ?_
      refine x_py 24 (.bool (x216 == x218)) rfl (by kernel_rfl) (tg := 65) (by kernel_rfl) (congrArg Value.bool a3) (fun _ => y_eql rfl rfl) (fun _ => hS) ?_
      refine x_py 25 (.bool (x216 == x218)) rfl (by kernel_rfl) (tg := 55) (by kernel_rfl) (congrArg Value.bool a5) (fun _ => y_pick_f (congrArg Value.bool a3) rfl) (fun _ => hS) ?_
      refine x_p 26 (.bool (x216 == x218)) rfl (by kernel_rfl)  (fun _ => y_pick_t (congrArg Value.bool a5) rfl) (fun _ => hS) ?_
      refine x_p 27 (.bool (x216 == x218)) rfl (by kernel_rfl)  (fun _ => y_assign rfl) (fun _ => hS) ?_
      refine x_end (by kernel_rfl) ?_
      clear hS
      cases hs
      exact ⟨_, fr_ovl 102 ⟨rfl, rfl, rfl, rfl, rfl, rfl, rfl, trivial⟩, hMid⟩
     refine x_pn 2 rfl (by kernel_rfl) (tg := 55) (by kernel_rfl) (congrArg Value.bool a5) (fun _ => hS) ?_
     refine x_pn 3 rfl (by kernel_rfl) (tg := 55) (by kernel_rfl) (congrArg Value.bool a5) (fun _ => hS) ?_
     refine x_pn 4 rfl (by kernel_rfl) (tg := 55) (by kernel_rfl) (congrArg Value.bool a5) (fun _ => hS) ?_
     refine x_pn 5 rfl (by kernel_rfl) (tg := 55) (by kernel_rfl) (congrArg Value.bool a5) (fun _ => hS) ?_
     refine x_pn 6 rfl (by kernel_rfl) (tg := 55) (by kernel_rfl) (congrArg Value.bool a5) (fun _ => hS) ?_
     refine x_pn 7 rfl (by kernel_rfl) (tg := 55) (by kernel_rfl) (congrArg Value.bool a5) (fun _ => hS) ?_
     refine x_pn 8 rfl (by kernel_rfl) (tg := 55) (by kernel_rfl) (congrArg Value.bool a5) (fun _ => hS) ?_
     refine x_pn 9 rfl (by kernel_rfl) (tg := 55) (by kernel_rfl) (congrArg Value.bool a5) (fun _ => hS) ?_
     refine x_pn 10 rfl (by kernel_rfl) (tg := 55) (by kernel_rfl) (congrArg Value.bool a5) (fun _ => hS) ?_
     refine x_pn 11 rfl (by kernel_rfl) (tg := 55) (by kernel_rfl) (congrArg Value.bool a5) (fun _ => hS) ?_
     refine x_pnu 12 rfl (by kernel_rfl) (tg := 65) (by kernel_rfl) rfl (fun _ => hS) ?_
     refine x_pnu 13 rfl (by kernel_rfl) (tg := 65) (by kernel_rfl) rfl (fun _ => hS) ?_
     refine x_pnu 14 rfl (by kernel_rfl) (tg := 65) (by kernel_rfl) rfl (fun _ => hS) ?_
     refine x_pnu 15 rfl (by kernel_rfl) (tg := 65) (by kernel_rfl) rfl (fun _ => hS) ?_
     refine x_pnu 16 rfl (by kernel_rfl) (tg := 65) (by kernel_rfl) rfl (fun _ => hS) ?_
     refine x_pnu 17 rfl (by kernel_rfl) (tg := 65) (by kernel_rfl) rfl (fun _ => hS) ?_
     refine x_pnu 18 rfl (by kernel_rfl) (tg := 65) (by kernel_rfl) rfl (fun _ => hS) ?_
     refine x_pnu 19 rfl (by kernel_rfl) (tg := 65) (by kernel_rfl) rfl (fun _ => hS) ?_
     refine x_pnu 20 rfl (by kernel_rfl) (tg := 65) (by kernel_rfl) rfl (fun _ => hS) ?_
     refine x_pnu 21 rfl (by kernel_rfl) (tg := 65) (by kernel_rfl) rfl (fun _ => hS) ?_
     refine x_pnu 22 rfl (by kernel_rfl) (tg := 65) (by kernel_rfl) rfl (fun _ => hS) ?_
     refine x_pnu 23 rfl (by kernel_rfl) (tg := 65) (by kernel_rfl) rfl (fun _ => hS) ?_
     refine x_pnu 24 rfl (by kernel_rfl) (tg := 65) (by kernel_rfl) rfl (fun _ => hS) ?_
     refine x_pn 25 rfl (by kernel_rfl) (tg := 55) (by kernel_rfl) (congrArg Value.bool a5) (fun _ => hS) ?_
     refine x_p 26 (.bool false) rfl (by kernel_rfl)  (fun _ => y_pick_f (congrArg Value.bool a5) rfl) (fun _ => hS) ?_
     refine x_p 27 (.bool false) rfl (by kernel_rfl)  (fun _ => y_assign rfl) (fun _ => hS) ?_
     refine x_end (by kernel_rfl) ?_
     clear hS
     cases hs
     exact ⟨_, fr_ovl 102 ⟨rfl, rfl, rfl, rfl, rfl, rfl, rfl, trivial⟩, hMid⟩
    rintro d5 e1 ⟨σ, rfl, c4⟩
    have h0 := h0.ext c4
    have h1 := h1.ext c4
    have h2 := h2.ext c4
    have a0 := a0.cn c4
    have a1 := a1.cn c4
    have a2 := a2.ext c4
    have b1 := b1.ext c4
    have hC := hC.ext c4
    have hO := hO.ext c4
    refine x_start [11] Mx rfl ?_
    have c1 := Chg.drew e1
    generalize World.drew e1 = k0 at c1 ⊢
    have h0 := h0.ext c1
    have h1 := h1.ext c1
    have h2 := h2.ext c1
    have a0 := a0.cn c1
    have a1 := a1.cn c1
    have a2 := a2.ext c1
    have b1 := b1.ext c1
    have hC := hC.ext c1
    have hO := hO.ext c1
    have hS := Chg.refl [] k0
    refine x_p 0 (.slice b3 b4 b5) rfl (by kernel_rfl)  (fun _ => y_move rfl) (fun _ => hS) ?_
    refine x_p 1 (.pointer (some ⟨a7, 0, none⟩)) rfl (by kernel_rfl)  (fun _ => y_faddr rfl Fa56x0) (fun _ => hS) ?_
    refine x_l 2 (.slice pa1 pn1 pc1) rfl (by kernel_rfl)  (fun w' hw' => y_load rfl ((box_load Ag41 Sz41 a1 [] [(.slice pa1 pn1 pc1)] [(.int .i64 c.2.1), (.slice pa2 pn2 pc2)] rfl rfl (fun _ => rfl)) w' hw')) hS ?_
    refine x_p 3 (.int .i64 k198) rfl (by kernel_rfl)  (fun _ => y_move rfl) (fun _ => hS) ?_
    obtain ⟨x221, k1, hs⟩ := bind_some hs
    obtain ⟨k2, k3, k4, k5⟩ := rs_idx Sl41 Sz3 h1 k1
    refine x_p 4 (.pointer (some ⟨k2, k3, none⟩)) rfl (by kernel_rfl)  (fun _ => k4 _ _ _ _ _ _ _ _ _ rfl rfl) (fun _ => hS) ?_
    refine x_l 5 (.int .i64 x221) rfl (by kernel_rfl)  (fun w' hw' => y_load rfl ((at_load_int Ag3 Sz3 k5) w' hw')) hS ?_
    refine x_p 6 (.slice b8 b9 c0) rfl (by kernel_rfl)  (fun _ => y_move rfl) (fun _ => hS) ?_
    refine x_p 7 (.int .i64 k198) rfl (by kernel_rfl)  (fun _ => y_move rfl) (fun _ => hS) ?_
    obtain ⟨x223, k6, hs⟩ := bind_some hs
    obtain ⟨k7, n8, n9, o0, k8, k9, o1⟩ := os_idx Sl41 Sz3 a2 k6
    refine x_p 8 (.pointer (some ⟨k7, 0 + Int.toNat k198 * 1, none⟩)) rfl (by kernel_rfl)  (fun _ => k8 _ _ _ _ _ _ _ _ _ rfl rfl) (fun _ => hS) ?_
    refine x_l 9 (.int .i64 x223) rfl (by kernel_rfl)  (fun w' hw' => y_load rfl ((at_load_int Ag3 Sz3 k9) w' hw')) hS ?_
    obtain ⟨x225, l0, hs⟩ := bind_some hs
    obtain ⟨f5, o2, f6, l1, l2, o3, o4⟩ := os_idx Sl41 Sz3 b1 l0
    refine x_p 10 (.pointer (some ⟨f5, 0 + Int.toNat x221 * 1, none⟩)) rfl (by kernel_rfl)  (fun _ => l2 _ _ _ _ _ _ _ _ _ rfl rfl) (fun _ => hS) ?_
    refine x_one (i := 11) (by kernel_rfl) ?_
    have hO := hO.fr1
    obtain ⟨l3, l4, l5, c9, l6, e6⟩ := os_store (P := Try.prog) (c' := [(.int .i64 x223)]) f6 b1 l1 (fun g hg => hO.inM g (os_block b1 g (by simpa using hg))) ⟨rfl, rfl⟩ List.nodup_nil (fun _ h => nomatch h) (fun _ h => .inl h)
    have d3 : ∀ q ∈ [f5], q ∈ d6 := fun q hq => os_block b1 q (by rw [f6]; exact hq)
    refine xk_skip (w' := l3) (b := true) rfl (ys_store rfl rfl (l5 _ _ rfl Sz3)) rfl (fun h => nomatch h) ?_
    have h0 := h0.mt c9 hO d3
    have h1 := h1.mt c9 hO d3
    have h2 := h2.mt c9 hO d3
    have a0 := a0.ap c9 hO d3 (mem_r (mem_r (mem_l (List.mem_singleton.2 rfl))))
    have a1 := a1.ap c9 hO d3 (mem_r (mem_l (List.mem_singleton.2 rfl)))
    have a2 := a2.ma c9 hO d3 (fun _ e => (mem_l (e)))
    have hC := hC.st c9 hO d3
    have hO := hO.grow c9 (fun q hq => .inl ((l6 q hq).resolve_right (fun h => nomatch h))) (os_nodup e6) e6.fpl
    refine x_end (by kernel_rfl) ?_
    clear hS
    refine c_region ?_
    refine pl_val (.int .i64 k198) (y_move rfl) ?_
    refine pl_val (.int .i64 (w64 (k198 + 1))) (y_add rfl rfl) ?_
    refine pl_val (.int .i64 (w64 (k198 + 1))) (y_assign rfl) ?_
    refine c_nil ?_
    cases hs
    have hO := hO.fr3
    have hO := hO.fr3
    have hO := hO.fr2
    have hO := hO.fr3
    exact ⟨_, l4, fr_ovl 102 ⟨rfl, rfl, rfl, rfl, rfl, rfl, congrArg (Value.int .i64) hw, trivial⟩, hC, hO, h0, h1, h2, a0, a1, a2, e6⟩
   ·skip
    have hO := hO.fr3
    have hO := hO.fr3
    have hO := hO.fr3
    have hO := hO.fr3
    exact ⟨_, e5, fr_ovl 102 ⟨rfl, rfl, rfl, rfl, rfl, rfl, rfl, trivial⟩, hC, hO, h0, h1, h2, a0, a1, a2, e0⟩
   cases o200 with
   | nx _ => exact True.intro
   | rt r_ =>
    have hs := after_rt hs
    intro d5 e8 hK
    cases hs
    exact hK
   | br s196 =>
    have hs := after_br hs
    rintro d5 a4 ⟨σ, d8, rfl, hC, hO, h0, h1, h2, a0, a1, a2, d9⟩
    refine c_seq ?_
    obtain ⟨s228, l7, hs⟩ := bind_some hs
    refine c_mid (I := fun a f7 => ∃ (σ : Nat → Value), a = fr 102 (ovl σ [(2, (.pointer (some ⟨a6, 0, none⟩))), (3, (.pointer (some ⟨a7, 0, none⟩))), (6, (.int .i64 s123)), (101, (.bool s228))]) ∧ Chg [] a4 f7) ?_ ?_
    ·replace hs := l7
     have hMid := Chg.refl [] a4
     refine c_region ?_
     refine pl_val (.bool s196.1) (y_move rfl) ?_
     refine pl_val (.bool s196.1) (y_move rfl) ?_
     rcases bif_some hs with ⟨b0, hs⟩ | ⟨b0, hs⟩
     ·skip
      refine pl_yes (.agg #[(.int .i64 net.1), (.int .i64 net.2.1), (.slice pa0 pn0 pc0)]) (tg := 93) (by kernel_rfl) (congrArg Value.bool b0) (y_load rfl ((box_load Ag30 Sz30 a0 [] [(.int .i64 net.1), (.int .i64 net.2.1), (.slice pa0 pn0 pc0)] [] rfl rfl (fun h => nomatch h)) _ (Chg.refl _ _))) ?_
      refine pl_yes (.pointer (some ⟨a6, 2, none⟩)) (tg := 93) (by kernel_rfl) (congrArg Value.bool b0) (y_faddr rfl Fa30x2) ?_
      refine pl_yes (.slice pa0 pn0 pc0) (tg := 93) (by kernel_rfl) (congrArg Value.bool b0) (y_load rfl ((box_load Ag28 Sz28 a0 [(.int .i64 net.1), (.int .i64 net.2.1)] [(.slice pa0 pn0 pc0)] [] rfl rfl (fun _ => rfl)) _ (Chg.refl _ _))) ?_
      refine pl_yes (.slice b3 b4 b5) (tg := 93) (by kernel_rfl) (congrArg Value.bool b0) (y_move rfl) ?_
      have hO := hO.fr1
      obtain ⟨r233, l8, hs⟩ := bind_some hs
      refine pl_cally (tg := 93) (by kernel_rfl) (congrArg Value.bool b0) Bd48 rfl (c_spec_l19Find (M := (Less M d8)) (net.1, net.2.1, net.2.2) net.2.2 s196.2 1 true (h0.sub Less.sub) (h0.sub Less.sub) (((Frz.os Frz.int)).val d9 Less.sub Less.not) hO.less.fut l8) ?_
      rintro _ o5 ⟨o6, o7, o8, l9, rfl, c2, f8, m0⟩
      have h0 := h0.ext c2
      have h1 := h1.ext c2
      have h2 := h2.ext c2
      have a0 := a0.cn c2
      have a1 := a1.cn c2
      have a2 := a2.ext c2
      have d9 := d9.ext c2
      have hMid := hMid.ext c2
      have hC := hC.ext c2
      have hO := Own.join0 hO c2 m0
      have hO := hO.perm (R := l9 ++ (d8 ++ (c8 ++ (([a7]) ++ (([a6]) ++ ([])))))) (by simp)
      have f8 := f8.free (M' := M) (Free.os (Free.os Free.int))
      refine pl_yes (.int .i64 r233.2.1) (tg := 93) (by kernel_rfl) (congrArg Value.bool b0) (y_field rfl (by kernel_rfl)) ?_
      refine pl_yes (.bool (decide (0 < r233.2.1))) (tg := 93) (by kernel_rfl) (congrArg Value.bool b0) (y_gtr rfl rfl) ?_
      refine pl_val (.bool (decide (0 < r233.2.1))) (y_pick_t (congrArg Value.bool b0) rfl) ?_
      refine c_nil ?_
      cases hs
      exact ⟨_, fr_ovl 102 ⟨rfl, rfl, rfl, rfl, trivial⟩, hMid⟩
     refine pl_not (tg := 93) (by kernel_rfl) (congrArg Value.bool b0) ?_
     refine pl_not (tg := 93) (by kernel_rfl) (congrArg Value.bool b0) ?_
     refine pl_not (tg := 93) (by kernel_rfl) (congrArg Value.bool b0) ?_
     refine pl_not (tg := 93) (by kernel_rfl) (congrArg Value.bool b0) ?_
     refine pl_not (tg := 93) (by kernel_rfl) (congrArg Value.bool b0) ?_
     refine pl_not (tg := 93) (by kernel_rfl) (congrArg Value.bool b0) ?_
     refine pl_not (tg := 93) (by kernel_rfl) (congrArg Value.bool b0) ?_
     refine pl_val (.bool false) (y_pick_f (congrArg Value.bool b0) rfl) ?_
     refine c_nil ?_
     cases hs
     exact ⟨_, fr_ovl 102 ⟨rfl, rfl, rfl, rfl, trivial⟩, hMid⟩
    rintro d5 f7 ⟨σ, rfl, c5⟩
    have h0 := h0.ext c5
    have h1 := h1.ext c5
    have h2 := h2.ext c5
    have a0 := a0.cn c5
    have a1 := a1.cn c5
    have a2 := a2.ext c5
    have d9 := d9.ext c5
    have hC := hC.ext c5
    have hO := hO.ext c5
    rcases bif_some hs with ⟨e7, hs⟩ | ⟨e7, hs⟩
    ·refine c_condT (congrArg Value.bool e7) ?_
     refine c_sr ?_
     refine pl_val (.bool false) (y_assign rfl) ?_
     refine pl_val (.bool true) (y_assign rfl) ?_
     refine c_nil ?_
     refine wp_ret ?_
     cases hs
     exact ⟨_, fr_ovl 102 ⟨rfl, rfl, trivial⟩, hC⟩
    refine c_condF (congrArg Value.bool e7) ?_
    refine wp_skip ?_
    refine c_region ?_
    refine pl_val (.int .i64 s123) (y_move rfl) ?_
    refine pl_val (.int .i64 (w64 (s123 + 1))) (y_add rfl rfl) ?_
    refine pl_val (.int .i64 (w64 (s123 + 1))) (y_assign rfl) ?_
    refine c_nil ?_
    cases hs
    have hO := hO.drop
    have hO := hO.drop
    have hO := hO.fr1
    have hO := hO.fr1
    exact ⟨_, fr_ovl 102 ⟨rfl, rfl, rfl, trivial⟩, hC, hO, h0, h1, h2, a0, a1⟩
  refine c_condF (congrArg Value.bool e4) ?_
  refine wp_exit ?_
  cases hs
  have hO := hO.fr1
  have hO := hO.fr1
  exact ⟨rfl, _, fr_ovl 102 trivial, hC, hO, h0, h1, h2, a0, a1⟩
 ·skip
  have hO := hO.fr1
  have hO := hO.fr1
  exact ⟨_, fr_ovl 102 ⟨rfl, rfl, rfl, trivial⟩, hC, hO, h0, h1, h2, a0, a1⟩
 cases o127 with
 | nx _ => exact True.intro
 | rt r_ =>
  have hs := after_rt hs
  intro d5 e8 hK
  cases hs
  exact hK
 | br s123 =>
  have hs := after_br hs
  rintro d5 a9 ⟨σ, rfl, hC, hO, h0, h1, h2, a0, a1⟩
  refine c_sr ?_
  refine pl_val (.bool true) (y_assign rfl) ?_
  refine pl_val (.bool true) (y_assign rfl) ?_
  refine c_nil ?_
  refine wp_ret ?_
  cases hs
  exact ⟨_, fr_ovl 102 ⟨rfl, rfl, trivial⟩, hC⟩

def k_impl_isTemplateSize (M : Nat → Prop) (w0 : World) (r : Bool) (a : Act) (w : World) : Prop :=
  ∃ (σ : Nat → Value) , a = fr 9 (ovl σ [(2, (.bool r))]) ∧ Chg [] w0 w
def s_impl_isTemplateSize (n : Int) : Option (Bool) :=
  (bif (decide (1 ≤ n)) then some (decide (n ≤ 4)) else some false)
set_option maxHeartbeats 4000000 in
theorem c_impl_isTemplateSize {M : Nat → Prop} {w : World}  (n : Int)  (hM : ∀ g, w.heap.size ≤ g → M g) {r : Bool} (hs : s_impl_isTemplateSize n = some r) :
    Gives Try.prog 103 [(.int .i64 n)] w (fun v w' => v = (.bool r) ∧ Chg [] w w') := by
 refine calls_fr Try.func103 rfl Try.ntmps103 (Nat.le_of_ble_eq_true rfl) ?_
 have hO := Own.start (N := Nw w []) hM Nw.fut
 have hC := Chg.refl [] w
 unfold s_impl_isTemplateSize at hs
 refine wp_mono (Q := KPost (k_impl_isTemplateSize M w r)) ?_ (fun e a a1 h => ?_)
 rotate_left
 ·cases e
  case ret =>
   obtain ⟨σ, rfl, hrest⟩ := h
   exact ret1x Try.results103 (res_tmp rfl) ⟨rfl, hrest⟩
  all_goals exact (h : False).elim
 refine c_sr ?_
 refine pl_val (.bool false) (y_assign rfl) ?_
 refine c_nil ?_
 refine c_sr ?_
 refine pl_val (.int .i64 n) (y_move rfl) ?_
 refine pl_val (.bool (decide (1 ≤ n))) (y_geq rfl rfl) ?_
 refine pl_val (.bool (decide (1 ≤ n))) (y_move rfl) ?_
 rcases bif_some hs with ⟨a0, hs⟩ | ⟨a0, hs⟩
 ·skip
  refine pl_yes (.int .i64 n) (tg := 5) (by kernel_rfl) (congrArg Value.bool a0) (y_move rfl) ?_
  refine pl_yes (.bool (decide (n ≤ 4))) (tg := 5) (by kernel_rfl) (congrArg Value.bool a0) (y_leq rfl rfl) ?_
  refine pl_val (.bool (decide (n ≤ 4))) (y_pick_t (congrArg Value.bool a0) rfl) ?_
  refine pl_val (.bool (decide (n ≤ 4))) (y_assign rfl) ?_
  refine c_nil ?_
  refine wp_ret ?_
  cases hs
  exact ⟨_, fr_ovl 9 ⟨rfl, trivial⟩, hC⟩
 refine pl_not (tg := 5) (by kernel_rfl) (congrArg Value.bool a0) ?_
 refine pl_not (tg := 5) (by kernel_rfl) (congrArg Value.bool a0) ?_
 refine pl_val (.bool false) (y_pick_f (congrArg Value.bool a0) rfl) ?_
 refine pl_val (.bool false) (y_assign rfl) ?_
 refine c_nil ?_
 refine wp_ret ?_
 cases hs
 exact ⟨_, fr_ovl 9 ⟨rfl, trivial⟩, hC⟩

def k_impl_inSize (M : Nat → Prop) (w0 : World) (r : Bool) (a : Act) (w : World) : Prop :=
  ∃ (σ : Nat → Value) , a = fr 21 (ovl σ [(4, (.bool r))]) ∧ Chg [] w0 w
def s_impl_inSize (list : List Int) (n : Int) : Option (Bool) :=
  (forR (S := Unit) (R := Bool) (fun _ x8 s5 =>
  (bif (decide (x8 < 0)) then some (.rt false) else (bif (decide (n ≤ x8)) then some (.rt false) else some (.nx ())))) 0 list ()).bind fun o9 => after o9 (fun r_ => some r_) (fun s5 =>
  some true)
set_option maxHeartbeats 4000000 in
theorem c_impl_inSize {M : Nat → Prop} {w : World} {pa0 : Option Addr} {pn0 pc0 : Nat} (list : List Int) (n : Int) (h0 : (RT.rs (RT.int .i64)).val M w (.slice pa0 pn0 pc0) list ([])) (hM : ∀ g, w.heap.size ≤ g → M g) {r : Bool} (hs : s_impl_inSize list n = some r) :
    Gives Try.prog 71 [(.slice pa0 pn0 pc0), (.int .i64 n)] w (fun v w' => v = (.bool r) ∧ Chg [] w w') := by
 refine calls_fr Try.func71 rfl Try.ntmps71 (Nat.le_of_ble_eq_true rfl) ?_
 have hO := Own.start (N := Nw w []) hM Nw.fut
 have hC := Chg.refl [] w
 unfold s_impl_inSize at hs
 refine wp_mono (Q := KPost (k_impl_inSize M w r)) ?_ (fun e a a4 h => ?_)
 rotate_left
 ·cases e
  case ret =>
   obtain ⟨σ, rfl, hrest⟩ := h
   exact ret1x Try.results71 (res_tmp rfl) ⟨rfl, hrest⟩
  all_goals exact (h : False).elim
 refine c_sr ?_
 refine pl_val (.bool false) (y_assign rfl) ?_
 refine c_nil ?_
 refine c_seq ?_
 refine c_sr ?_
 refine pl_val (.slice pa0 pn0 pc0) (y_move rfl) ?_
 refine pl_val (.int .i64 (list.length : Int)) (y_len' Sl41 (rs_len h0) rfl) ?_
 refine pl_val (.int .i64 0) (y_move rfl) ?_
 refine c_nil ?_
 obtain ⟨o9, a5, hs⟩ := bind_some hs
 refine wp_block ?_
 refine wp_forR (id := 0) (I := fun i_ xs_ s5 a a0 => ∃ a1 : Nat, i_ = (a1 : Int) ∧ List.drop a1 list = xs_ ∧ (∃ (σ : Nat → Value), a = fr 21 (ovl σ [(1, (.int .i64 n)), (7, (.slice pa0 pn0 pc0)), (8, (.int .i64 (list.length : Int))), (9, (.int .i64 (a1 : Int)))]) ∧ Chg [] w a0 ∧ Own (Nw w []) M a0 ([]) ∧ (RT.rs (RT.int .i64)).val M a0 (.slice pa0 pn0 pc0) list ([]))) (J := fun s5 a a0 => ∃ (σ : Nat → Value), a = fr 21 (ovl σ []) ∧ Chg [] w a0 ∧ Own (Nw w []) M a0 ([]) ∧ (RT.rs (RT.int .i64)).val M a0 (.slice pa0 pn0 pc0) list ([])) (K := (k_impl_inSize M w)) ?_ ?_ list 0 () o9 _ _ ?_ a5 ?_
 ·rintro _ s5 a a0 ⟨a1, rfl, hd, σ, rfl, hC, hO, h0⟩
  have hlt := drop_nil_ge hd
  refine c_sr ?_
  refine pl_val (.bool (decide ((a1 : Int) < (list.length : Int)))) (y_lss rfl rfl) ?_
  refine c_nil ?_
  refine c_seq ?_
  refine c_condF (congrArg Value.bool (decide_eq_false hlt)) ?_
  refine wp_exit ?_
  exact ⟨rfl, _, fr_ovl 21 trivial, hC, hO, h0⟩
 ·rintro _ x8 xs_ s5 o9 a a0 ⟨a1, rfl, hd, σ, rfl, hC, hO, h0⟩ hs
  have hlt := drop_cons_lt hd
  have a6 := drop_cons_idx hd
  refine c_sr ?_
  refine pl_val (.bool (decide ((a1 : Int) < (list.length : Int)))) (y_lss rfl rfl) ?_
  refine c_nil ?_
  refine c_seq ?_
  refine c_condT (congrArg Value.bool (decide_eq_true hlt)) ?_
  refine wp_skip ?_
  refine c_seq ?_
  refine wp_block ?_
  refine c_sr ?_
  obtain ⟨a7, a8, a9, b0⟩ := rs_idx Sl41 Sz3 h0 a6
  refine pl_val (.pointer (some ⟨a7, a8, none⟩)) (a9 _ _ _ _ _ _ _ _ _ rfl rfl) ?_
  refine pl_val (.int .i64 x8) (y_load rfl ((at_load_int Ag3 Sz3 b0) _ (Chg.refl _ _))) ?_
  refine pl_val (.int .i64 x8) (y_assign rfl) ?_
  refine c_nil ?_
  refine c_sr ?_
  refine pl_val (.int .i64 x8) (y_move rfl) ?_
  refine pl_val (.bool (decide (x8 < 0))) (y_lss rfl rfl) ?_
  refine pl_val (.bool (decide (x8 < 0))) (y_move rfl) ?_
  rcases bif_some hs with ⟨a2, hs⟩ | ⟨a2, hs⟩
  ·skip
   refine pl_not (tg := 15) (by kernel_rfl) (congrArg Value.bool a2) ?_
   refine pl_not (tg := 15) (by kernel_rfl) (congrArg Value.bool a2) ?_
   refine pl_not (tg := 15) (by kernel_rfl) (congrArg Value.bool a2) ?_
   refine pl_val (.bool true) (y_pick_t (congrArg Value.bool a2) rfl) ?_
   refine c_nil ?_
   refine c_condT (by rfl) ?_
   refine c_sr ?_
   refine pl_val (.bool false) (y_assign rfl) ?_
   refine c_nil ?_
   refine wp_ret ?_
   cases hs
   exact ⟨_, fr_ovl 21 ⟨rfl, trivial⟩, hC⟩
  refine pl_yes (.int .i64 x8) (tg := 15) (by kernel_rfl) (congrArg Value.bool a2) (y_move rfl) ?_
  refine pl_yes (.int .i64 n) (tg := 15) (by kernel_rfl) (congrArg Value.bool a2) (y_move rfl) ?_
  refine pl_yes (.bool (decide (n ≤ x8))) (tg := 15) (by kernel_rfl) (congrArg Value.bool a2) (y_geq rfl rfl) ?_
  refine pl_val (.bool (decide (n ≤ x8))) (y_pick_f (congrArg Value.bool a2) rfl) ?_
  refine c_nil ?_
  rcases bif_some hs with ⟨a3, hs⟩ | ⟨a3, hs⟩
  ·refine c_condT (congrArg Value.bool a3) ?_
   refine c_sr ?_
   refine pl_val (.bool false) (y_assign rfl) ?_
   refine c_nil ?_
   refine wp_ret ?_
   cases hs
   exact ⟨_, fr_ovl 21 ⟨rfl, trivial⟩, hC⟩
  refine c_condF (congrArg Value.bool a3) ?_
  refine wp_skip ?_
  refine c_region ?_
  refine pl_val (.int .i64 (w64 ((a1 : Int) + 1))) (y_add rfl rfl) ?_
  refine pl_val (.int .i64 (w64 ((a1 : Int) + 1))) (y_move rfl) ?_
  refine c_nil ?_
  cases hs
  exact ⟨_, rfl, drop_cons_next hd, _, fr_ovl 21 ⟨rfl, rfl, rfl, congrArg (Value.int .i64) (w64_succ hlt (Int.natCast_nonneg _) (rs_max h0)), trivial⟩, hC, hO, h0⟩
 ·skip
  exact ⟨0, rfl, rfl, _, fr_ovl 21 ⟨rfl, rfl, rfl, rfl, trivial⟩, hC, hO, h0⟩
 cases o9 with
 | nx _ => exact True.intro
 | rt r_ =>
  have hs := after_rt hs
  intro b1 a4 hK
  cases hs
  exact hK
 | br s5 =>
  have hs := after_br hs
  rintro b1 a0 ⟨σ, rfl, hC, hO, h0⟩
  refine c_sr ?_
  refine pl_val (.bool true) (y_assign rfl) ?_
  refine c_nil ?_
  refine wp_ret ?_
  cases hs
  exact ⟨_, fr_ovl 21 ⟨rfl, trivial⟩, hC⟩

def k_impl_compareLists (M : Nat → Prop) (w0 : World) (r : Int) (a : Act) (w : World) : Prop :=
  ∃ (σ : Nat → Value) , a = fr 48 (ovl σ [(4, (.int .i64 r))]) ∧ Chg [] w0 w
def s_impl_compareLists (s_ : List Int) (t : List Int) : Option (Int) :=
  (iter (S := Int) (R := Int) (fun s25 =>
  (bif ((decide (s25 < (s_.length : Int))) && (decide (s25 < (t.length : Int)))) then (idx s_ s25).bind fun x42 =>
  (idx t s25).bind fun x44 =>
  (bif (x42 != x44) then (idx s_ s25).bind fun x48 =>
  (idx t s25).bind fun x50 =>
  (bif (decide (x48 < x50)) then some (.rt (-1)) else some (.rt 1)) else some (.nx (w64 (s25 + 1)))) else some (.br s25))) FU 0).bind fun o29 => after o29 (fun r_ => some r_) (fun s25 =>
  (bif (decide ((s_.length : Int) < (t.length : Int))) then some (-1) else (bif (decide ((t.length : Int) < (s_.length : Int))) then some 1 else some 0)))
set_option maxHeartbeats 4000000 in
theorem c_impl_compareLists {M : Nat → Prop} {w : World} {pa0 : Option Addr} {pn0 pc0 : Nat} {pa1 : Option Addr} {pn1 pc1 : Nat} (s_ : List Int) (t : List Int) (h0 : (RT.rs (RT.int .i64)).val M w (.slice pa0 pn0 pc0) s_ ([])) (h1 : (RT.rs (RT.int .i64)).val M w (.slice pa1 pn1 pc1) t ([])) (hM : ∀ g, w.heap.size ≤ g → M g) {r : Int} (hs : s_impl_compareLists s_ t = some r) :
    Gives Try.prog 136 [(.slice pa0 pn0 pc0), (.slice pa1 pn1 pc1)] w (fun v w' => v = (.int .i64 r) ∧ Chg [] w w') := by
 refine calls_fr Try.func136 rfl Try.ntmps136 (Nat.le_of_ble_eq_true rfl) ?_
 have hO := Own.start (N := Nw w []) hM Nw.fut
 have hC := Chg.refl [] w
 unfold s_impl_compareLists at hs
 refine wp_mono (Q := KPost (k_impl_compareLists M w r)) ?_ (fun e a b3 h => ?_)
 rotate_left
 ·cases e
  case ret =>
   obtain ⟨σ, rfl, hrest⟩ := h
   exact ret1x Try.results136 (res_tmp rfl) ⟨rfl, hrest⟩
  all_goals exact (h : False).elim
 refine c_sr ?_
 refine pl_val (.int .i64 0) (y_assign rfl) ?_
 refine c_nil ?_
 refine c_seq ?_
 refine c_sr ?_
 refine pl_val (.int .i64 0) (y_assign rfl) ?_
 refine c_nil ?_
 obtain ⟨o29, b4, hs⟩ := bind_some hs
 refine wp_block ?_
 refine wp_iter (id := 0) (I := fun s25 a a0 => ∃ (σ : Nat → Value), a = fr 48 (ovl σ [(0, (.slice pa0 pn0 pc0)), (1, (.slice pa1 pn1 pc1)), (5, (.int .i64 s25))]) ∧ Chg [] w a0 ∧ Own (Nw w []) M a0 ([]) ∧ (RT.rs (RT.int .i64)).val M a0 (.slice pa0 pn0 pc0) s_ ([]) ∧ (RT.rs (RT.int .i64)).val M a0 (.slice pa1 pn1 pc1) t ([])) (J := fun s25 a a0 => ∃ (σ : Nat → Value), a = fr 48 (ovl σ [(0, (.slice pa0 pn0 pc0)), (1, (.slice pa1 pn1 pc1))]) ∧ Chg [] w a0 ∧ Own (Nw w []) M a0 ([]) ∧ (RT.rs (RT.int .i64)).val M a0 (.slice pa0 pn0 pc0) s_ ([]) ∧ (RT.rs (RT.int .i64)).val M a0 (.slice pa1 pn1 pc1) t ([])) (K := (k_impl_compareLists M w)) ?_ FU 0 o29 _ _ ?_ b4 ?_
 ·rintro s25 o29 a a0 ⟨σ, rfl, hC, hO, h0, h1⟩ hs
  refine c_seq ?_
  refine c_seq ?_
  refine c_mid (I := fun a a4 => ∃ (σ : Nat → Value), a = fr 48 (ovl σ [(0, (.slice pa0 pn0 pc0)), (1, (.slice pa1 pn1 pc1)), (5, (.int .i64 s25)), (15, (.bool ((decide (s25 < (s_.length : Int))) && (decide (s25 < (t.length : Int))))))]) ∧ Chg [] a0 a4) ?_ ?_
  ·have hMid := Chg.refl [] a0
   refine c_region ?_
   refine pl_val (.int .i64 s25) (y_move rfl) ?_
   refine pl_val (.slice pa0 pn0 pc0) (y_move rfl) ?_
   refine pl_val (.int .i64 (s_.length : Int)) (y_len' Sl41 (rs_len h0) rfl) ?_
   refine pl_val (.bool (decide (s25 < (s_.length : Int)))) (y_lss rfl rfl) ?_
   refine pl_val (.bool (decide (s25 < (s_.length : Int)))) (y_move rfl) ?_
   rcases Bool.eq_false_or_eq_true ((decide (s25 < (s_.length : Int)))) with a1 | a1
   ·skip
    refine pl_yes (.int .i64 s25) (tg := 10) (by kernel_rfl) (congrArg Value.bool a1) (y_move rfl) ?_
    refine pl_yes (.slice pa1 pn1 pc1) (tg := 10) (by kernel_rfl) (congrArg Value.bool a1) (y_move rfl) ?_
    refine pl_yes (.int .i64 (t.length : Int)) (tg := 10) (by kernel_rfl) (congrArg Value.bool a1) (y_len' Sl41 (rs_len h1) rfl) ?_
    refine pl_yes (.bool (decide (s25 < (t.length : Int)))) (tg := 10) (by kernel_rfl) (congrArg Value.bool a1) (y_lss rfl rfl) ?_
    refine pl_val (.bool ((decide (s25 < (s_.length : Int))) && (decide (s25 < (t.length : Int))))) (y_pick_t (congrArg Value.bool a1) (congrArg Value.bool (by rw [a1]; rfl))) ?_
    refine c_nil ?_
    exact ⟨_, fr_ovl 48 ⟨rfl, rfl, rfl, rfl, trivial⟩, hMid⟩
   refine pl_not (tg := 10) (by kernel_rfl) (congrArg Value.bool a1) ?_
   refine pl_not (tg := 10) (by kernel_rfl) (congrArg Value.bool a1) ?_
   refine pl_not (tg := 10) (by kernel_rfl) (congrArg Value.bool a1) ?_
   refine pl_not (tg := 10) (by kernel_rfl) (congrArg Value.bool a1) ?_
   refine pl_val (.bool ((decide (s25 < (s_.length : Int))) && (decide (s25 < (t.length : Int))))) (y_pick_f (congrArg Value.bool a1) (congrArg Value.bool (by rw [a1]; rfl))) ?_
   refine c_nil ?_
   exact ⟨_, fr_ovl 48 ⟨rfl, rfl, rfl, rfl, trivial⟩, hMid⟩
  rintro b2 a4 ⟨σ, rfl, a5⟩
  have h0 := h0.ext a5
  have h1 := h1.ext a5
  have hC := hC.ext a5
  have hO := hO.ext a5
  rcases bif_some hs with ⟨a6, hs⟩ | ⟨a6, hs⟩
  ·refine c_condT (congrArg Value.bool a6) ?_
   refine wp_skip ?_
   refine c_seq ?_
   refine wp_block ?_
   refine c_seq ?_
   refine x_start [] Mx rfl ?_
   have a2 := Chg.drew a4
   generalize World.drew a4 = a7 at a2 ⊢
   have h0 := h0.ext a2
   have h1 := h1.ext a2
   have hC := hC.ext a2
   have hO := hO.ext a2
   have hS := Chg.refl [] a7
   refine x_p 0 (.slice pa0 pn0 pc0) rfl (by kernel_rfl)  (fun _ => y_move rfl) (fun _ => hS) ?_
   refine x_p 1 (.int .i64 s25) rfl (by kernel_rfl)  (fun _ => y_move rfl) (fun _ => hS) ?_
   obtain ⟨x42, b5, hs⟩ := bind_some hs
   obtain ⟨b6, b7, b8, b9⟩ := rs_idx Sl41 Sz3 h0 b5
   refine x_p 2 (.pointer (some ⟨b6, b7, none⟩)) rfl (by kernel_rfl)  (fun _ => b8 _ _ _ _ _ _ _ _ _ rfl rfl) (fun _ => hS) ?_
   refine x_l 3 (.int .i64 x42) rfl (by kernel_rfl)  (fun w' hw' => y_load rfl ((at_load_int Ag3 Sz3 b9) w' hw')) hS ?_
   refine x_p 4 (.slice pa1 pn1 pc1) rfl (by kernel_rfl)  (fun _ => y_move rfl) (fun _ => hS) ?_
   refine x_p 5 (.int .i64 s25) rfl (by kernel_rfl)  (fun _ => y_move rfl) (fun _ => hS) ?_
   obtain ⟨x44, c0, hs⟩ := bind_some hs
   obtain ⟨c1, c2, c3, c4⟩ := rs_idx Sl41 Sz3 h1 c0
   refine x_p 6 (.pointer (some ⟨c1, c2, none⟩)) rfl (by kernel_rfl)  (fun _ => c3 _ _ _ _ _ _ _ _ _ rfl rfl) (fun _ => hS) ?_
   refine x_l 7 (.int .i64 x44) rfl (by kernel_rfl)  (fun w' hw' => y_load rfl ((at_load_int Ag3 Sz3 c4) w' hw')) hS ?_
   refine x_p 8 (.bool (x42 != x44)) rfl (by kernel_rfl)  (fun _ => y_neq rfl rfl) (fun _ => hS) ?_
   refine x_end (by kernel_rfl) ?_
   clear hS
   rcases bif_some hs with ⟨a8, hs⟩ | ⟨a8, hs⟩
   ·refine c_condT (congrArg Value.bool a8) ?_
    refine c_seq ?_
    refine c_seq ?_
    refine x_start [] Mx rfl ?_
    have a3 := Chg.drew a7
    generalize World.drew a7 = c5 at a3 ⊢
    have h0 := h0.ext a3
    have h1 := h1.ext a3
    have hC := hC.ext a3
    have hO := hO.ext a3
    have hS := Chg.refl [] c5
    refine x_p 0 (.slice pa0 pn0 pc0) rfl (by kernel_rfl)  (fun _ => y_move rfl) (fun _ => hS) ?_
    refine x_p 1 (.int .i64 s25) rfl (by kernel_rfl)  (fun _ => y_move rfl) (fun _ => hS) ?_
    obtain ⟨x48, c6, hs⟩ := bind_some hs
    obtain ⟨c7, c8, c9, d0⟩ := rs_idx Sl41 Sz3 h0 c6
    refine x_p 2 (.pointer (some ⟨c7, c8, none⟩)) rfl (by kernel_rfl)  (fun _ => c9 _ _ _ _ _ _ _ _ _ rfl rfl) (fun _ => hS) ?_
    refine x_l 3 (.int .i64 x48) rfl (by kernel_rfl)  (fun w' hw' => y_load rfl ((at_load_int Ag3 Sz3 d0) w' hw')) hS ?_
    refine x_p 4 (.slice pa1 pn1 pc1) rfl (by kernel_rfl)  (fun _ => y_move rfl) (fun _ => hS) ?_
    refine x_p 5 (.int .i64 s25) rfl (by kernel_rfl)  (fun _ => y_move rfl) (fun _ => hS) ?_
    obtain ⟨x50, d1, hs⟩ := bind_some hs
    obtain ⟨d2, d3, d4, d5⟩ := rs_idx Sl41 Sz3 h1 d1
    refine x_p 6 (.pointer (some ⟨d2, d3, none⟩)) rfl (by kernel_rfl)  (fun _ => d4 _ _ _ _ _ _ _ _ _ rfl rfl) (fun _ => hS) ?_
    refine x_l 7 (.int .i64 x50) rfl (by kernel_rfl)  (fun w' hw' => y_load rfl ((at_load_int Ag3 Sz3 d5) w' hw')) hS ?_
    refine x_p 8 (.bool (decide (x48 < x50))) rfl (by kernel_rfl)  (fun _ => y_lss rfl rfl) (fun _ => hS) ?_
    refine x_end (by kernel_rfl) ?_
    clear hS
    rcases bif_some hs with ⟨a9, hs⟩ | ⟨a9, hs⟩
    ·refine c_condT (congrArg Value.bool a9) ?_
     refine c_sr ?_
     refine pl_val (.int .i64 (-1)) (y_assign rfl) ?_
     refine c_nil ?_
     refine wp_ret ?_
     cases hs
     exact ⟨_, fr_ovl 48 ⟨rfl, trivial⟩, hC⟩
    refine c_condF (congrArg Value.bool a9) ?_
    refine wp_skip ?_
    refine c_sr ?_
    refine pl_val (.int .i64 1) (y_assign rfl) ?_
    refine c_nil ?_
    refine wp_ret ?_
    cases hs
    exact ⟨_, fr_ovl 48 ⟨rfl, trivial⟩, hC⟩
   refine c_condF (congrArg Value.bool a8) ?_
   refine wp_skip ?_
   refine c_region ?_
   refine pl_val (.int .i64 s25) (y_move rfl) ?_
   refine pl_val (.int .i64 (w64 (s25 + 1))) (y_add rfl rfl) ?_
   refine pl_val (.int .i64 (w64 (s25 + 1))) (y_assign rfl) ?_
   refine c_nil ?_
   cases hs
   exact ⟨_, fr_ovl 48 ⟨rfl, rfl, rfl, trivial⟩, hC, hO, h0, h1⟩
  refine c_condF (congrArg Value.bool a6) ?_
  refine wp_exit ?_
  cases hs
  exact ⟨rfl, _, fr_ovl 48 ⟨rfl, rfl, trivial⟩, hC, hO, h0, h1⟩
 ·skip
  exact ⟨_, fr_ovl 48 ⟨rfl, rfl, rfl, trivial⟩, hC, hO, h0, h1⟩
 cases o29 with
 | nx _ => exact True.intro
 | rt r_ =>
  have hs := after_rt hs
  intro b2 b3 hK
  cases hs
  exact hK
 | br s25 =>
  have hs := after_br hs
  rintro b2 a0 ⟨σ, rfl, hC, hO, h0, h1⟩
  refine c_seq ?_
  refine wp_block ?_
  refine c_sr ?_
  refine pl_val (.slice pa0 pn0 pc0) (y_move rfl) ?_
  refine pl_val (.int .i64 (s_.length : Int)) (y_len' Sl41 (rs_len h0) rfl) ?_
  refine pl_val (.slice pa1 pn1 pc1) (y_move rfl) ?_
  refine pl_val (.int .i64 (t.length : Int)) (y_len' Sl41 (rs_len h1) rfl) ?_
  refine pl_val (.bool (decide ((s_.length : Int) < (t.length : Int)))) (y_lss rfl rfl) ?_
  refine pl_val (.bool (decide ((s_.length : Int) < (t.length : Int)))) (y_assign rfl) ?_
  refine c_nil ?_
  rcases bif_some hs with ⟨b0, hs⟩ | ⟨b0, hs⟩
  ·refine c_condT (congrArg Value.bool b0) ?_
   refine c_sr ?_
   refine pl_val (.int .i64 (-1)) (y_assign rfl) ?_
   refine c_nil ?_
   refine wp_ret ?_
   cases hs
   exact ⟨_, fr_ovl 48 ⟨rfl, trivial⟩, hC⟩
  refine c_condF (congrArg Value.bool b0) ?_
  refine c_sr ?_
  refine pl_val (.slice pa0 pn0 pc0) (y_move rfl) ?_
  refine pl_val (.int .i64 (s_.length : Int)) (y_len' Sl41 (rs_len h0) rfl) ?_
  refine pl_val (.slice pa1 pn1 pc1) (y_move rfl) ?_
  refine pl_val (.int .i64 (t.length : Int)) (y_len' Sl41 (rs_len h1) rfl) ?_
  refine pl_val (.bool (decide ((t.length : Int) < (s_.length : Int)))) (y_gtr rfl rfl) ?_
  refine pl_val (.bool (decide ((t.length : Int) < (s_.length : Int)))) (y_assign rfl) ?_
  refine c_nil ?_
  rcases bif_some hs with ⟨b1, hs⟩ | ⟨b1, hs⟩
  ·refine c_condT (congrArg Value.bool b1) ?_
   refine c_sr ?_
   refine pl_val (.int .i64 1) (y_assign rfl) ?_
   refine c_nil ?_
   refine wp_ret ?_
   cases hs
   exact ⟨_, fr_ovl 48 ⟨rfl, trivial⟩, hC⟩
  refine c_condF (congrArg Value.bool b1) ?_
  refine wp_skip ?_
  refine c_sr ?_
  refine pl_val (.int .i64 0) (y_assign rfl) ?_
  refine c_nil ?_
  refine wp_ret ?_
  cases hs
  exact ⟨_, fr_ovl 48 ⟨rfl, trivial⟩, hC⟩

theorem Bd71 : Bodied Try.prog 71 := bodied Try.func71 (by kernel_rfl) rfl

theorem Bd136 : Bodied Try.prog 136 := bodied Try.func136 (by kernel_rfl) rfl

def k_impl_isRelation (M : Nat → Prop) (w0 : World) (r : Bool) (a : Act) (w : World) : Prop :=
  ∃ (σ : Nat → Value) , a = fr 50 (ovl σ [(4, (.bool r))]) ∧ Chg [] w0 w
def s_impl_isRelation (n : Int) (r_ : Int × (List (List Int))) : Option (Bool) :=
  (bif ((decide (r_.1 < 1)) || (decide (3 < r_.1))) then some false else (forC (S := Unit) (R := Bool) (fun k26 s24 =>
  (idx r_.2 k26).bind fun x30 =>
  (bif ((x30.length : Int) != r_.1) then some (.rt false) else (s_impl_inSize x30 n).bind fun r36 =>
  (bif (!r36) then some (.rt false) else (bif (decide (0 < k26)) then (idx r_.2 (w64 (k26 - 1))).bind fun x39 =>
  (s_impl_compareLists x39 x30).bind fun r44 =>
  (bif (decide (0 ≤ r44)) then some (.rt false) else some (.nx ())) else some (.nx ()))))) 0 (r_.2.length : Int) ()).bind fun o28 => after o28 (fun r_ => some r_) (fun s24 =>
  some true))
set_option maxHeartbeats 4000000 in
theorem c_impl_isRelation {M : Nat → Prop} {w : World} {pa0 : Option Addr} {pn0 pc0 : Nat} (n : Int) (r_ : Int × (List (List Int))) (h0 : (RT.rs (RT.rs (RT.int .i64))).val M w (.slice pa0 pn0 pc0) r_.2 ([])) (hM : ∀ g, w.heap.size ≤ g → M g) {r : Bool} (hs : s_impl_isRelation n r_ = some r) :
    Gives Try.prog 118 [(.int .i64 n), (.agg #[(.int .i64 r_.1), (.slice pa0 pn0 pc0)])] w (fun v w' => v = (.bool r) ∧ Chg [] w w') := by
 refine calls_fr Try.func118 rfl Try.ntmps118 (Nat.le_of_ble_eq_true rfl) ?_
 have hO := Own.start (N := Nw w []) hM Nw.fut
 have hC := Chg.refl [] w
 unfold s_impl_isRelation at hs
 refine wp_mono (Q := KPost (k_impl_isRelation M w r)) ?_ (fun e a c2 h => ?_)
 rotate_left
 ·cases e
  case ret =>
   obtain ⟨σ, rfl, hrest⟩ := h
   exact ret1x Try.results118 (res_tmp rfl) ⟨rfl, hrest⟩
  all_goals exact (h : False).elim
 refine c_sr ?_
 obtain ⟨b5, a3, c3, b9, b6, a1⟩ := new_block w [(.int .i64 r_.1), (.slice pa0 pn0 pc0)] 54
 refine pl_val (w' := b5) (.pointer (some ⟨a3, 0, none⟩)) (y_box rfl (by rw [c3, b9]; kernel_rfl)) ?_
 have h0 := h0.ext b6
 have hC := hC.ext b6
 have hO := hO.new1 b6 b9 a1.lt
 refine pl_val (.bool false) (y_assign rfl) ?_
 refine c_nil ?_
 refine c_seq ?_
 refine c_seq ?_
 refine c_mid (I := fun a c0 => ∃ (σ : Nat → Value), a = fr 50 (ovl σ [(0, (.int .i64 n)), (3, (.pointer (some ⟨a3, 0, none⟩))), (4, (.bool false)), (14, (.bool ((decide (r_.1 < 1)) || (decide (3 < r_.1)))))]) ∧ Chg [] b5 c0) ?_ ?_
 ·have hMid := Chg.refl [] b5
  refine c_region ?_
  refine pl_val (.pointer (some ⟨a3, 0, none⟩)) (y_faddr rfl Fa54x0) ?_
  refine pl_val (.int .i64 r_.1) (y_load rfl ((box_load Ag3 Sz3 a1 [] [(.int .i64 r_.1)] [(.slice pa0 pn0 pc0)] rfl rfl (fun _ => rfl)) _ (Chg.refl _ _))) ?_
  refine pl_val (.bool (decide (r_.1 < 1))) (y_lss rfl rfl) ?_
  refine pl_val (.bool (decide (r_.1 < 1))) (y_move rfl) ?_
  rcases Bool.eq_false_or_eq_true ((decide (r_.1 < 1))) with a5 | a5
  ·skip
   refine pl_not (tg := 10) (by kernel_rfl) (congrArg Value.bool a5) ?_
   refine pl_not (tg := 10) (by kernel_rfl) (congrArg Value.bool a5) ?_
   refine pl_not (tg := 10) (by kernel_rfl) (congrArg Value.bool a5) ?_
   refine pl_val (.bool ((decide (r_.1 < 1)) || (decide (3 < r_.1)))) (y_pick_t (congrArg Value.bool a5) (congrArg Value.bool (by rw [a5]; rfl))) ?_
   refine c_nil ?_
   exact ⟨_, fr_ovl 50 ⟨rfl, rfl, rfl, rfl, trivial⟩, hMid⟩
  refine pl_yes (.pointer (some ⟨a3, 0, none⟩)) (tg := 10) (by kernel_rfl) (congrArg Value.bool a5) (y_faddr rfl Fa54x0) ?_
  refine pl_yes (.int .i64 r_.1) (tg := 10) (by kernel_rfl) (congrArg Value.bool a5) (y_load rfl ((box_load Ag3 Sz3 a1 [] [(.int .i64 r_.1)] [(.slice pa0 pn0 pc0)] rfl rfl (fun _ => rfl)) _ (Chg.refl _ _))) ?_
  refine pl_yes (.bool (decide (3 < r_.1))) (tg := 10) (by kernel_rfl) (congrArg Value.bool a5) (y_gtr rfl rfl) ?_
  refine pl_val (.bool ((decide (r_.1 < 1)) || (decide (3 < r_.1)))) (y_pick_f (congrArg Value.bool a5) (congrArg Value.bool (by rw [a5]; rfl))) ?_
  refine c_nil ?_
  exact ⟨_, fr_ovl 50 ⟨rfl, rfl, rfl, rfl, trivial⟩, hMid⟩
 rintro c1 c0 ⟨σ, rfl, b3⟩
 have h0 := h0.ext b3
 have a1 := a1.cn b3
 have hC := hC.ext b3
 have hO := hO.ext b3
 rcases bif_some hs with ⟨b7, hs⟩ | ⟨b7, hs⟩
 ·refine c_condT (congrArg Value.bool b7) ?_
  refine c_sr ?_
  refine pl_val (.bool false) (y_assign rfl) ?_
  refine c_nil ?_
  refine wp_ret ?_
  cases hs
  exact ⟨_, fr_ovl 50 ⟨rfl, trivial⟩, hC⟩
 refine c_condF (congrArg Value.bool b7) ?_
 refine wp_skip ?_
 refine c_seq ?_
 refine c_sr ?_
 refine pl_val (.pointer (some ⟨a3, 1, none⟩)) (y_faddr rfl Fa54x1) ?_
 refine pl_val (.slice pa0 pn0 pc0) (y_load rfl ((box_load Ag47 Sz47 a1 [(.int .i64 r_.1)] [(.slice pa0 pn0 pc0)] [] rfl rfl (fun _ => rfl)) _ (Chg.refl _ _))) ?_
 refine pl_val (.int .i64 (r_.2.length : Int)) (y_len' Sl47 (rs_len h0) rfl) ?_
 refine pl_val (.int .i64 0) (y_move rfl) ?_
 refine c_nil ?_
 obtain ⟨o28, c4, hs⟩ := bind_some hs
 refine wp_block ?_
 refine wp_forC (id := 0) (r_.2.length : Int) (I := fun k26 s24 a a4 => ∃ (σ : Nat → Value), a = fr 50 (ovl σ [(0, (.int .i64 n)), (3, (.pointer (some ⟨a3, 0, none⟩))), (16, (.slice pa0 pn0 pc0)), (17, (.int .i64 (r_.2.length : Int))), (18, (.int .i64 k26))]) ∧ Chg [] w a4 ∧ Own (Nw w []) M a4 (([a3]) ++ []) ∧ (RT.rs (RT.rs (RT.int .i64))).val M a4 (.slice pa0 pn0 pc0) r_.2 ([]) ∧ BoxV a4 a3 54 [(.int .i64 r_.1), (.slice pa0 pn0 pc0)]) (J := fun s24 a a4 => ∃ (σ : Nat → Value), a = fr 50 (ovl σ []) ∧ Chg [] w a4 ∧ Own (Nw w []) M a4 (([a3]) ++ []) ∧ (RT.rs (RT.rs (RT.int .i64))).val M a4 (.slice pa0 pn0 pc0) r_.2 ([]) ∧ BoxV a4 a3 54 [(.int .i64 r_.1), (.slice pa0 pn0 pc0)]) (K := (k_impl_isRelation M w)) ?_ ?_ 0 () o28 _ _ ?_ c4 ?_
 ·rintro k26 s24 a a4 ⟨σ, rfl, hC, hO, h0, a1⟩ hlt
  refine c_sr ?_
  refine pl_val (.bool (decide (k26 < (r_.2.length : Int)))) (y_lss rfl rfl) ?_
  refine c_nil ?_
  refine c_seq ?_
  refine c_condF (congrArg Value.bool (decide_eq_false hlt)) ?_
  refine wp_exit ?_
  exact ⟨rfl, _, fr_ovl 50 trivial, hC, hO, h0, a1⟩
 ·rintro k26 s24 o28 a a4 ⟨σ, rfl, hC, hO, h0, a1⟩ hlt hw hs
  refine c_sr ?_
  refine pl_val (.bool (decide (k26 < (r_.2.length : Int)))) (y_lss rfl rfl) ?_
  refine c_nil ?_
  refine c_seq ?_
  refine c_condT (congrArg Value.bool (decide_eq_true hlt)) ?_
  refine wp_skip ?_
  refine c_seq ?_
  refine wp_block ?_
  refine c_sr ?_
  refine pl_val (.int .i64 k26) (y_move rfl) ?_
  obtain ⟨x30, c5, hs⟩ := bind_some hs
  obtain ⟨c6, c7, c8, c9⟩ := rs_idx Sl47 Sz41 h0 c5
  refine pl_val (.pointer (some ⟨c6, c7, none⟩)) (c8 _ _ _ _ _ _ _ _ _ rfl rfl) ?_
  obtain ⟨e2, d0, a7⟩ := at_load Ag41 Sz41 (fun _ => rfl) c9
  obtain ⟨a9, b0, b1, rfl⟩ := rs_sl a7
  refine pl_val (.slice a9 b0 b1) (y_load rfl (d0 _ (Chg.refl _ _))) ?_
  refine pl_val (.int .i64 k26) (y_assign rfl) ?_
  refine pl_val (.slice a9 b0 b1) (y_assign rfl) ?_
  refine c_nil ?_
  refine c_sr ?_
  refine pl_val (.slice a9 b0 b1) (y_move rfl) ?_
  refine pl_val (.int .i64 (x30.length : Int)) (y_len' Sl41 (rs_len a7) rfl) ?_
  refine pl_val (.pointer (some ⟨a3, 0, none⟩)) (y_faddr rfl Fa54x0) ?_
  refine pl_val (.int .i64 r_.1) (y_load rfl ((box_load Ag3 Sz3 a1 [] [(.int .i64 r_.1)] [(.slice pa0 pn0 pc0)] rfl rfl (fun _ => rfl)) _ (Chg.refl _ _))) ?_
  refine pl_val (.bool ((x30.length : Int) != r_.1)) (y_neq rfl rfl) ?_
  refine pl_val (.bool ((x30.length : Int) != r_.1)) (y_move rfl) ?_
  rcases bif_some hs with ⟨a6, hs⟩ | ⟨a6, hs⟩
  ·skip
   refine pl_not (tg := 28) (by kernel_rfl) (congrArg Value.bool a6) ?_
   refine pl_not (tg := 28) (by kernel_rfl) (congrArg Value.bool a6) ?_
   refine pl_not (tg := 28) (by kernel_rfl) (congrArg Value.bool a6) ?_
   refine pl_not (tg := 28) (by kernel_rfl) (congrArg Value.bool a6) ?_
   refine pl_val (.bool true) (y_pick_t (congrArg Value.bool a6) rfl) ?_
   refine pl_val (.bool true) (y_move rfl) ?_
   refine pl_not (tg := 34) (by kernel_rfl) (by rfl) ?_
   refine pl_not (tg := 34) (by kernel_rfl) (by rfl) ?_
   refine pl_not (tg := 34) (by kernel_rfl) (by rfl) ?_
   refine pl_nou (tg := 37) (by kernel_rfl) rfl ?_
   refine pl_nou (tg := 37) (by kernel_rfl) rfl ?_
   refine pl_nou (tg := 37) (by kernel_rfl) rfl ?_
   refine pl_nou (tg := 37) (by kernel_rfl) rfl ?_
   refine pl_nou (tg := 37) (by kernel_rfl) rfl ?_
   refine pl_nou (tg := 37) (by kernel_rfl) rfl ?_
   refine pl_nou (tg := 37) (by kernel_rfl) rfl ?_
   refine pl_nou (tg := 37) (by kernel_rfl) rfl ?_
   refine pl_nou (tg := 37) (by kernel_rfl) rfl ?_
   refine pl_not (tg := 34) (by kernel_rfl) (by rfl) ?_
   refine pl_val (.bool true) (y_pick_t (by rfl) rfl) ?_
   refine c_nil ?_
   refine c_condT (by rfl) ?_
   refine c_sr ?_
   refine pl_val (.bool false) (y_assign rfl) ?_
   refine c_nil ?_
   refine wp_ret ?_
   cases hs
   exact ⟨_, fr_ovl 50 ⟨rfl, trivial⟩, hC⟩
  refine pl_yes (.slice a9 b0 b1) (tg := 28) (by kernel_rfl) (congrArg Value.bool a6) (y_move rfl) ?_
  refine pl_yes (.int .i64 n) (tg := 28) (by kernel_rfl) (congrArg Value.bool a6) (y_move rfl) ?_
  obtain ⟨r36, d1, hs⟩ := bind_some hs
  refine pl_cally (tg := 28) (by kernel_rfl) (congrArg Value.bool a6) Bd71 rfl (c_impl_inSize (M := M) x30 n a7 hO.fut d1) ?_
  rintro _ e3 ⟨rfl, b2⟩
  have h0 := h0.ext b2
  have a1 := a1.cn b2
  have a7 := a7.ext b2
  have hC := hC.ext b2
  have hO := hO.ext b2
  refine pl_yes (.bool (!r36)) (tg := 28) (by kernel_rfl) (congrArg Value.bool a6) (y_not rfl) ?_
  refine pl_val (.bool (!r36)) (y_pick_f (congrArg Value.bool a6) rfl) ?_
  refine pl_val (.bool (!r36)) (y_move rfl) ?_
  rcases bif_some hs with ⟨a2, hs⟩ | ⟨a2, hs⟩
  ·skip
   refine pl_not (tg := 34) (by kernel_rfl) (congrArg Value.bool a2) ?_
   refine pl_not (tg := 34) (by kernel_rfl) (congrArg Value.bool a2) ?_
   refine pl_not (tg := 34) (by kernel_rfl) (congrArg Value.bool a2) ?_
   refine pl_nou (tg := 37) (by kernel_rfl) rfl ?_
   refine pl_nou (tg := 37) (by kernel_rfl) rfl ?_
   refine pl_nou (tg := 37) (by kernel_rfl) rfl ?_
   refine pl_nou (tg := 37) (by kernel_rfl) rfl ?_
   refine pl_nou (tg := 37) (by kernel_rfl) rfl ?_
   refine pl_nou (tg := 37) (by kernel_rfl) rfl ?_
   refine pl_nou (tg := 37) (by kernel_rfl) rfl ?_
   refine pl_nou (tg := 37) (by kernel_rfl) rfl ?_
   refine pl_nou (tg := 37) (by kernel_rfl) rfl ?_
   refine pl_not (tg := 34) (by kernel_rfl) (congrArg Value.bool a2) ?_
   refine pl_val (.bool true) (y_pick_t (congrArg Value.bool a2) rfl) ?_
   refine c_nil ?_
   refine c_condT (by rfl) ?_
   refine c_sr ?_
   refine pl_val (.bool false) (y_assign rfl) ?_
   refine c_nil ?_
   refine wp_ret ?_
   cases hs
   exact ⟨_, fr_ovl 50 ⟨rfl, trivial⟩, hC⟩
  refine pl_yes (.int .i64 k26) (tg := 34) (by kernel_rfl) (congrArg Value.bool a2) (y_move rfl) ?_
  refine pl_yes (.bool (decide (0 < k26))) (tg := 34) (by kernel_rfl) (congrArg Value.bool a2) (y_gtr rfl rfl) ?_
  refine pl_yes (.bool (decide (0 < k26))) (tg := 34) (by kernel_rfl) (congrArg Value.bool a2) (y_move rfl) ?_
  rcases bif_some hs with ⟨a0, hs⟩ | ⟨a0, hs⟩
  ·skip
   refine pl_yes (.pointer (some ⟨a3, 1, none⟩)) (tg := 37) (by kernel_rfl) (congrArg Value.bool a0) (y_faddr rfl Fa54x1) ?_
   refine pl_yes (.slice pa0 pn0 pc0) (tg := 37) (by kernel_rfl) (congrArg Value.bool a0) (y_load rfl ((box_load Ag47 Sz47 a1 [(.int .i64 r_.1)] [(.slice pa0 pn0 pc0)] [] rfl rfl (fun _ => rfl)) _ (Chg.refl _ _))) ?_
   refine pl_yes (.int .i64 k26) (tg := 37) (by kernel_rfl) (congrArg Value.bool a0) (y_move rfl) ?_
   refine pl_yes (.int .i64 (w64 (k26 - 1))) (tg := 37) (by kernel_rfl) (congrArg Value.bool a0) (y_sub rfl rfl) ?_
   obtain ⟨x39, d2, hs⟩ := bind_some hs
   obtain ⟨d3, d4, d5, d6⟩ := rs_idx Sl47 Sz41 h0 d2
   refine pl_yes (.pointer (some ⟨d3, d4, none⟩)) (tg := 37) (by kernel_rfl) (congrArg Value.bool a0) (d5 _ _ _ _ _ _ _ _ _ rfl rfl) ?_
   obtain ⟨e4, d7, b4⟩ := at_load Ag41 Sz41 (fun _ => rfl) d6
   obtain ⟨d8, d9, e0, rfl⟩ := rs_sl b4
   refine pl_yes (.slice d8 d9 e0) (tg := 37) (by kernel_rfl) (congrArg Value.bool a0) (y_load rfl (d7 _ (Chg.refl _ _))) ?_
   refine pl_yes (.slice a9 b0 b1) (tg := 37) (by kernel_rfl) (congrArg Value.bool a0) (y_move rfl) ?_
   obtain ⟨r44, e1, hs⟩ := bind_some hs
   refine pl_cally (tg := 37) (by kernel_rfl) (congrArg Value.bool a0) Bd136 rfl (c_impl_compareLists (M := M) x39 x30 b4 a7 hO.fut e1) ?_
   rintro _ e5 ⟨rfl, a8⟩
   have h0 := h0.ext a8
   have a1 := a1.cn a8
   have a7 := a7.ext a8
   have b4 := b4.ext a8
   have hC := hC.ext a8
   have hO := hO.ext a8
   refine pl_yes (.bool (decide (0 ≤ r44))) (tg := 37) (by kernel_rfl) (congrArg Value.bool a0) (y_geq rfl rfl) ?_
   refine pl_yes (.bool (decide (0 ≤ r44))) (tg := 34) (by kernel_rfl) (congrArg Value.bool a2) (y_pick_t (congrArg Value.bool a0) rfl) ?_
   refine pl_val (.bool (decide (0 ≤ r44))) (y_pick_f (congrArg Value.bool a2) rfl) ?_
   refine c_nil ?_
   rcases bif_some hs with ⟨b8, hs⟩ | ⟨b8, hs⟩
   ·refine c_condT (congrArg Value.bool b8) ?_
    refine c_sr ?_
    refine pl_val (.bool false) (y_assign rfl) ?_
    refine c_nil ?_
    refine wp_ret ?_
    cases hs
    exact ⟨_, fr_ovl 50 ⟨rfl, trivial⟩, hC⟩
   refine c_condF (congrArg Value.bool b8) ?_
   refine wp_skip ?_
   refine c_region ?_
   refine pl_val (.int .i64 (w64 (k26 + 1))) (y_add rfl rfl) ?_
   refine pl_val (.int .i64 (w64 (k26 + 1))) (y_move rfl) ?_
   refine c_nil ?_
   cases hs
   exact ⟨_, fr_ovl 50 ⟨rfl, rfl, rfl, rfl, congrArg (Value.int .i64) hw, trivial⟩, hC, hO, h0, a1⟩
  refine pl_not (tg := 37) (by kernel_rfl) (congrArg Value.bool a0) ?_
  refine pl_not (tg := 37) (by kernel_rfl) (congrArg Value.bool a0) ?_
  refine pl_not (tg := 37) (by kernel_rfl) (congrArg Value.bool a0) ?_
  refine pl_not (tg := 37) (by kernel_rfl) (congrArg Value.bool a0) ?_
  refine pl_not (tg := 37) (by kernel_rfl) (congrArg Value.bool a0) ?_
  refine pl_not (tg := 37) (by kernel_rfl) (congrArg Value.bool a0) ?_
  refine pl_not (tg := 37) (by kernel_rfl) (congrArg Value.bool a0) ?_
  refine pl_not (tg := 37) (by kernel_rfl) (congrArg Value.bool a0) ?_
  refine pl_not (tg := 37) (by kernel_rfl) (congrArg Value.bool a0) ?_
  refine pl_yes (.bool false) (tg := 34) (by kernel_rfl) (congrArg Value.bool a2) (y_pick_f (congrArg Value.bool a0) rfl) ?_
  refine pl_val (.bool false) (y_pick_f (congrArg Value.bool a2) rfl) ?_
  refine c_nil ?_
  refine c_condF (by rfl) ?_
  refine wp_skip ?_
  refine c_region ?_
  refine pl_val (.int .i64 (w64 (k26 + 1))) (y_add rfl rfl) ?_
  refine pl_val (.int .i64 (w64 (k26 + 1))) (y_move rfl) ?_
  refine c_nil ?_
  cases hs
  exact ⟨_, fr_ovl 50 ⟨rfl, rfl, rfl, rfl, congrArg (Value.int .i64) hw, trivial⟩, hC, hO, h0, a1⟩
 ·skip
  exact ⟨_, fr_ovl 50 ⟨rfl, rfl, rfl, rfl, rfl, trivial⟩, hC, hO, h0, a1⟩
 cases o28 with
 | nx _ => exact True.intro
 | rt r_ =>
  have hs := after_rt hs
  intro c1 c2 hK
  cases hs
  exact hK
 | br s24 =>
  have hs := after_br hs
  rintro c1 a4 ⟨σ, rfl, hC, hO, h0, a1⟩
  refine c_sr ?_
  refine pl_val (.bool true) (y_assign rfl) ?_
  refine c_nil ?_
  refine wp_ret ?_
  cases hs
  exact ⟨_, fr_ovl 50 ⟨rfl, trivial⟩, hC⟩

theorem Bd118 : Bodied Try.prog 118 := bodied Try.func118 (by kernel_rfl) rfl

def k_impl_isConstraint (M : Nat → Prop) (w0 : World) (r : Bool) (a : Act) (w : World) : Prop :=
  ∃ (σ : Nat → Value) , a = fr 26 (ovl σ [(6, (.bool r))]) ∧ Chg [] w0 w
def s_impl_isConstraint (vars : Int) (size : Int) (c : (List Int) × (Int × (List (List Int)))) : Option (Bool) :=
  (s_impl_isRelation size (c.2.1, c.2.2)).bind fun r5 =>
  (bif r5 then (bif ((c.1.length : Int) == c.2.1) then (s_impl_inSize c.1 vars).bind fun r9 =>
  some r9 else some false) else some false)
set_option maxHeartbeats 4000000 in
theorem c_impl_isConstraint {M : Nat → Prop} {w : World} {pa0 : Option Addr} {pn0 pc0 : Nat} {pa1 : Option Addr} {pn1 pc1 : Nat} (vars : Int) (size : Int) (c : (List Int) × (Int × (List (List Int)))) (h0 : (RT.rs (RT.int .i64)).val M w (.slice pa0 pn0 pc0) c.1 ([])) (h1 : (RT.rs (RT.rs (RT.int .i64))).val M w (.slice pa1 pn1 pc1) c.2.2 ([])) (hM : ∀ g, w.heap.size ≤ g → M g) {r : Bool} (hs : s_impl_isConstraint vars size c = some r) :
    Gives Try.prog 78 [(.int .i64 vars), (.int .i64 size), (.agg #[(.slice pa0 pn0 pc0), (.int .i64 c.2.1), (.slice pa1 pn1 pc1)])] w (fun v w' => v = (.bool r) ∧ Chg [] w w') := by
 refine calls_fr Try.func78 rfl Try.ntmps78 (Nat.le_of_ble_eq_true rfl) ?_
 have hO := Own.start (N := Nw w []) hM Nw.fut
 have hC := Chg.refl [] w
 unfold s_impl_isConstraint at hs
 refine wp_mono (Q := KPost (k_impl_isConstraint M w r)) ?_ (fun e a b2 h => ?_)
 rotate_left
 ·cases e
  case ret =>
   obtain ⟨σ, rfl, hrest⟩ := h
   exact ret1x Try.results78 (res_tmp rfl) ⟨rfl, hrest⟩
  all_goals exact (h : False).elim
 refine c_sr ?_
 obtain ⟨a8, a3, a9, a7, a6, a2⟩ := new_block w [(.slice pa0 pn0 pc0), (.int .i64 c.2.1), (.slice pa1 pn1 pc1)] 56
 refine pl_val (w' := a8) (.pointer (some ⟨a3, 0, none⟩)) (y_box rfl (by rw [a9, a7]; kernel_rfl)) ?_
 have h0 := h0.ext a6
 have h1 := h1.ext a6
 have hC := hC.ext a6
 have hO := hO.new1 a6 a7 a2.lt
 refine pl_val (.bool false) (y_assign rfl) ?_
 refine c_nil ?_
 refine c_sr ?_
 refine pl_val (.int .i64 size) (y_move rfl) ?_
 refine pl_val (.pointer (some ⟨a3, 1, none⟩)) (y_faddr rfl Fa56x1) ?_
 refine pl_val (.agg #[(.int .i64 c.2.1), (.slice pa1 pn1 pc1)]) (y_load rfl ((box_load Ag54 Sz54 a2 [(.slice pa0 pn0 pc0)] [(.int .i64 c.2.1), (.slice pa1 pn1 pc1)] [] rfl rfl (fun h => nomatch h)) _ (Chg.refl _ _))) ?_
 obtain ⟨r5, b0, hs⟩ := bind_some hs
 refine pl_call Bd118 rfl (c_impl_isRelation (M := M) size (c.2.1, c.2.2) h1 hO.fut b0) ?_
 rintro _ b3 ⟨rfl, a4⟩
 have h0 := h0.ext a4
 have h1 := h1.ext a4
 have a2 := a2.cn a4
 have hC := hC.ext a4
 have hO := hO.ext a4
 refine pl_val (.bool r5) (y_move rfl) ?_
 rcases bif_some hs with ⟨a0, hs⟩ | ⟨a0, hs⟩
 ·skip
  refine pl_yes (.pointer (some ⟨a3, 0, none⟩)) (tg := 11) (by kernel_rfl) (congrArg Value.bool a0) (y_faddr rfl Fa56x0) ?_
  refine pl_yes (.slice pa0 pn0 pc0) (tg := 11) (by kernel_rfl) (congrArg Value.bool a0) (y_load rfl ((box_load Ag41 Sz41 a2 [] [(.slice pa0 pn0 pc0)] [(.int .i64 c.2.1), (.slice pa1 pn1 pc1)] rfl rfl (fun _ => rfl)) _ (Chg.refl _ _))) ?_
  refine pl_yes (.int .i64 (c.1.length : Int)) (tg := 11) (by kernel_rfl) (congrArg Value.bool a0) (y_len' Sl41 (rs_len h0) rfl) ?_
  refine pl_yes (.pointer (some ⟨a3, 1, none⟩)) (tg := 11) (by kernel_rfl) (congrArg Value.bool a0) (y_faddr rfl Fa56x1) ?_
  refine pl_yes (.pointer (some ⟨a3, 1, none⟩)) (tg := 11) (by kernel_rfl) (congrArg Value.bool a0) (y_faddr rfl Fa54x0) ?_
  refine pl_yes (.int .i64 c.2.1) (tg := 11) (by kernel_rfl) (congrArg Value.bool a0) (y_load rfl ((box_load Ag3 Sz3 a2 [(.slice pa0 pn0 pc0)] [(.int .i64 c.2.1)] [(.slice pa1 pn1 pc1)] rfl rfl (fun _ => rfl)) _ (Chg.refl _ _))) ?_
  refine pl_yes (.bool ((c.1.length : Int) == c.2.1)) (tg := 11) (by kernel_rfl) (congrArg Value.bool a0) (y_eql rfl rfl) ?_
  refine pl_val (.bool ((c.1.length : Int) == c.2.1)) (y_pick_t (congrArg Value.bool a0) rfl) ?_
  refine pl_val (.bool ((c.1.length : Int) == c.2.1)) (y_move rfl) ?_
  rcases bif_some hs with ⟨a1, hs⟩ | ⟨a1, hs⟩
  ·skip
   refine pl_yes (.pointer (some ⟨a3, 0, none⟩)) (tg := 20) (by kernel_rfl) (congrArg Value.bool a1) (y_faddr rfl Fa56x0) ?_
   refine pl_yes (.slice pa0 pn0 pc0) (tg := 20) (by kernel_rfl) (congrArg Value.bool a1) (y_load rfl ((box_load Ag41 Sz41 a2 [] [(.slice pa0 pn0 pc0)] [(.int .i64 c.2.1), (.slice pa1 pn1 pc1)] rfl rfl (fun _ => rfl)) _ (Chg.refl _ _))) ?_
   refine pl_yes (.int .i64 vars) (tg := 20) (by kernel_rfl) (congrArg Value.bool a1) (y_move rfl) ?_
   obtain ⟨r9, b1, hs⟩ := bind_some hs
   refine pl_cally (tg := 20) (by kernel_rfl) (congrArg Value.bool a1) Bd71 rfl (c_impl_inSize (M := M) c.1 vars h0 hO.fut b1) ?_
   rintro _ b4 ⟨rfl, a5⟩
   have h0 := h0.ext a5
   have h1 := h1.ext a5
   have a2 := a2.cn a5
   have hC := hC.ext a5
   have hO := hO.ext a5
   refine pl_val (.bool r9) (y_pick_t (congrArg Value.bool a1) rfl) ?_
   refine pl_val (.bool r9) (y_assign rfl) ?_
   refine c_nil ?_
   refine wp_ret ?_
   cases hs
   exact ⟨_, fr_ovl 26 ⟨rfl, trivial⟩, hC⟩
  refine pl_not (tg := 20) (by kernel_rfl) (congrArg Value.bool a1) ?_
  refine pl_not (tg := 20) (by kernel_rfl) (congrArg Value.bool a1) ?_
  refine pl_not (tg := 20) (by kernel_rfl) (congrArg Value.bool a1) ?_
  refine pl_not (tg := 20) (by kernel_rfl) (congrArg Value.bool a1) ?_
  refine pl_val (.bool false) (y_pick_f (congrArg Value.bool a1) rfl) ?_
  refine pl_val (.bool false) (y_assign rfl) ?_
  refine c_nil ?_
  refine wp_ret ?_
  cases hs
  exact ⟨_, fr_ovl 26 ⟨rfl, trivial⟩, hC⟩
 refine pl_not (tg := 11) (by kernel_rfl) (congrArg Value.bool a0) ?_
 refine pl_not (tg := 11) (by kernel_rfl) (congrArg Value.bool a0) ?_
 refine pl_not (tg := 11) (by kernel_rfl) (congrArg Value.bool a0) ?_
 refine pl_not (tg := 11) (by kernel_rfl) (congrArg Value.bool a0) ?_
 refine pl_not (tg := 11) (by kernel_rfl) (congrArg Value.bool a0) ?_
 refine pl_not (tg := 11) (by kernel_rfl) (congrArg Value.bool a0) ?_
 refine pl_not (tg := 11) (by kernel_rfl) (congrArg Value.bool a0) ?_
 refine pl_val (.bool false) (y_pick_f (congrArg Value.bool a0) rfl) ?_
 refine pl_val (.bool false) (y_move rfl) ?_
 refine pl_not (tg := 20) (by kernel_rfl) (by rfl) ?_
 refine pl_not (tg := 20) (by kernel_rfl) (by rfl) ?_
 refine pl_not (tg := 20) (by kernel_rfl) (by rfl) ?_
 refine pl_not (tg := 20) (by kernel_rfl) (by rfl) ?_
 refine pl_val (.bool false) (y_pick_f (by rfl) rfl) ?_
 refine pl_val (.bool false) (y_assign rfl) ?_
 refine c_nil ?_
 refine wp_ret ?_
 cases hs
 exact ⟨_, fr_ovl 26 ⟨rfl, trivial⟩, hC⟩

theorem Bd103 : Bodied Try.prog 103 := bodied Try.func103 (by kernel_rfl) rfl

theorem Bd78 : Bodied Try.prog 78 := bodied Try.func78 (by kernel_rfl) rfl

def k_impl_IsNetwork (M : Nat → Prop) (w0 : World) (r : Bool) (a : Act) (w : World) : Prop :=
  ∃ (σ : Nat → Value) , a = fr 40 (ovl σ [(2, (.bool r))]) ∧ Chg [] w0 w
def s_impl_IsNetwork (net : Int × Int × (List ((List Int) × (Int × (List (List Int)))))) : Option (Bool) :=
  ((bif (decide (net.1 < 0)) then some true else (bif (decide (9 < net.1)) then some true else (s_impl_isTemplateSize net.2.1).bind fun r9 =>
  (bif (!r9) then some true else some (decide (40 < (net.2.2.length : Int))))))).bind fun s3 =>
  (bif s3 then some false else (forR (S := Unit) (R := Bool) (fun _ x24 s21 =>
  (s_impl_isConstraint net.1 net.2.1 (x24.1, (x24.2.1, x24.2.2))).bind fun r34 =>
  (bif (!r34) then some (.rt false) else some (.nx ()))) 0 net.2.2 ()).bind fun o25 => after o25 (fun r_ => some r_) (fun s21 =>
  some true))
set_option maxHeartbeats 4000000 in
theorem c_impl_IsNetwork {M : Nat → Prop} {w : World} {pa0 : Option Addr} {pn0 pc0 : Nat} (net : Int × Int × (List ((List Int) × (Int × (List (List Int)))))) (h0 : (RT.rs (RT.pr (RT.rs (RT.int .i64)) (RT.pr (RT.int .i64) (RT.rs (RT.rs (RT.int .i64)))))).val M w (.slice pa0 pn0 pc0) net.2.2 ([])) (hM : ∀ g, w.heap.size ≤ g → M g) {r : Bool} (hs : s_impl_IsNetwork net = some r) :
    Gives Try.prog 51 [(.agg #[(.int .i64 net.1), (.int .i64 net.2.1), (.slice pa0 pn0 pc0)])] w (fun v w' => v = (.bool r) ∧ Chg [] w w') := by
 refine calls_fr Try.func51 rfl Try.ntmps51 (Nat.le_of_ble_eq_true rfl) ?_
 have hO := Own.start (N := Nw w []) hM Nw.fut
 have hC := Chg.refl [] w
 unfold s_impl_IsNetwork at hs
 refine wp_mono (Q := KPost (k_impl_IsNetwork M w r)) ?_ (fun e a d2 h => ?_)
 rotate_left
 ·cases e
  case ret =>
   obtain ⟨σ, rfl, hrest⟩ := h
   exact ret1x Try.results51 (res_tmp rfl) ⟨rfl, hrest⟩
  all_goals exact (h : False).elim
 refine c_sr ?_
 obtain ⟨c1, a1, d3, c5, c2, a0⟩ := new_block w [(.int .i64 net.1), (.int .i64 net.2.1), (.slice pa0 pn0 pc0)] 30
 refine pl_val (w' := c1) (.pointer (some ⟨a1, 0, none⟩)) (y_box rfl (by rw [d3, c5]; kernel_rfl)) ?_
 have h0 := h0.ext c2
 have hC := hC.ext c2
 have hO := hO.new1 c2 c5 a0.lt
 refine pl_val (.bool false) (y_assign rfl) ?_
 refine c_nil ?_
 refine c_seq ?_
 refine c_seq ?_
 obtain ⟨s3, d4, hs⟩ := bind_some hs
 refine c_mid (I := fun a c6 => ∃ (σ : Nat → Value), a = fr 40 (ovl σ [(1, (.pointer (some ⟨a1, 0, none⟩))), (2, (.bool false)), (24, (.bool s3))]) ∧ Chg [] c1 c6) ?_ ?_
 ·replace hs := d4
  have hMid := Chg.refl [] c1
  refine c_region ?_
  refine pl_val (.pointer (some ⟨a1, 0, none⟩)) (y_faddr rfl Fa30x0) ?_
  refine pl_val (.int .i64 net.1) (y_load rfl ((box_load Ag3 Sz3 a0 [] [(.int .i64 net.1)] [(.int .i64 net.2.1), (.slice pa0 pn0 pc0)] rfl rfl (fun _ => rfl)) _ (Chg.refl _ _))) ?_
  refine pl_val (.bool (decide (net.1 < 0))) (y_lss rfl rfl) ?_
  refine pl_val (.bool (decide (net.1 < 0))) (y_move rfl) ?_
  rcases bif_some hs with ⟨a5, hs⟩ | ⟨a5, hs⟩
  ·skip
   refine pl_not (tg := 8) (by kernel_rfl) (congrArg Value.bool a5) ?_
   refine pl_not (tg := 8) (by kernel_rfl) (congrArg Value.bool a5) ?_
   refine pl_not (tg := 8) (by kernel_rfl) (congrArg Value.bool a5) ?_
   refine pl_val (.bool true) (y_pick_t (congrArg Value.bool a5) rfl) ?_
   refine pl_val (.bool true) (y_move rfl) ?_
   refine pl_not (tg := 13) (by kernel_rfl) (by rfl) ?_
   refine pl_not (tg := 13) (by kernel_rfl) (by rfl) ?_
   refine pl_not (tg := 13) (by kernel_rfl) (by rfl) ?_
   refine pl_not (tg := 13) (by kernel_rfl) (by rfl) ?_
   refine pl_val (.bool true) (y_pick_t (by rfl) rfl) ?_
   refine pl_val (.bool true) (y_move rfl) ?_
   refine pl_not (tg := 19) (by kernel_rfl) (by rfl) ?_
   refine pl_not (tg := 19) (by kernel_rfl) (by rfl) ?_
   refine pl_not (tg := 19) (by kernel_rfl) (by rfl) ?_
   refine pl_not (tg := 19) (by kernel_rfl) (by rfl) ?_
   refine pl_val (.bool true) (y_pick_t (by rfl) rfl) ?_
   refine c_nil ?_
   cases hs
   exact ⟨_, fr_ovl 40 ⟨rfl, rfl, rfl, trivial⟩, hMid⟩
  refine pl_yes (.pointer (some ⟨a1, 0, none⟩)) (tg := 8) (by kernel_rfl) (congrArg Value.bool a5) (y_faddr rfl Fa30x0) ?_
  refine pl_yes (.int .i64 net.1) (tg := 8) (by kernel_rfl) (congrArg Value.bool a5) (y_load rfl ((box_load Ag3 Sz3 a0 [] [(.int .i64 net.1)] [(.int .i64 net.2.1), (.slice pa0 pn0 pc0)] rfl rfl (fun _ => rfl)) _ (Chg.refl _ _))) ?_
  refine pl_yes (.bool (decide (9 < net.1))) (tg := 8) (by kernel_rfl) (congrArg Value.bool a5) (y_gtr rfl rfl) ?_
  refine pl_val (.bool (decide (9 < net.1))) (y_pick_f (congrArg Value.bool a5) rfl) ?_
  refine pl_val (.bool (decide (9 < net.1))) (y_move rfl) ?_
  rcases bif_some hs with ⟨a3, hs⟩ | ⟨a3, hs⟩
  ·skip
   refine pl_not (tg := 13) (by kernel_rfl) (congrArg Value.bool a3) ?_
   refine pl_not (tg := 13) (by kernel_rfl) (congrArg Value.bool a3) ?_
   refine pl_not (tg := 13) (by kernel_rfl) (congrArg Value.bool a3) ?_
   refine pl_not (tg := 13) (by kernel_rfl) (congrArg Value.bool a3) ?_
   refine pl_val (.bool true) (y_pick_t (congrArg Value.bool a3) rfl) ?_
   refine pl_val (.bool true) (y_move rfl) ?_
   refine pl_not (tg := 19) (by kernel_rfl) (by rfl) ?_
   refine pl_not (tg := 19) (by kernel_rfl) (by rfl) ?_
   refine pl_not (tg := 19) (by kernel_rfl) (by rfl) ?_
   refine pl_not (tg := 19) (by kernel_rfl) (by rfl) ?_
   refine pl_val (.bool true) (y_pick_t (by rfl) rfl) ?_
   refine c_nil ?_
   cases hs
   exact ⟨_, fr_ovl 40 ⟨rfl, rfl, rfl, trivial⟩, hMid⟩
  refine pl_yes (.pointer (some ⟨a1, 1, none⟩)) (tg := 13) (by kernel_rfl) (congrArg Value.bool a3) (y_faddr rfl Fa30x1) ?_
  refine pl_yes (.int .i64 net.2.1) (tg := 13) (by kernel_rfl) (congrArg Value.bool a3) (y_load rfl ((box_load Ag3 Sz3 a0 [(.int .i64 net.1)] [(.int .i64 net.2.1)] [(.slice pa0 pn0 pc0)] rfl rfl (fun _ => rfl)) _ (Chg.refl _ _))) ?_
  obtain ⟨r9, d5, hs⟩ := bind_some hs
  refine pl_cally (tg := 13) (by kernel_rfl) (congrArg Value.bool a3) Bd103 rfl (c_impl_isTemplateSize (M := M) net.2.1  hO.fut d5) ?_
  rintro _ f3 ⟨rfl, b2⟩
  have h0 := h0.ext b2
  have a0 := a0.cn b2
  have hMid := hMid.ext b2
  have hC := hC.ext b2
  have hO := hO.ext b2
  refine pl_yes (.bool (!r9)) (tg := 13) (by kernel_rfl) (congrArg Value.bool a3) (y_not rfl) ?_
  refine pl_val (.bool (!r9)) (y_pick_f (congrArg Value.bool a3) rfl) ?_
  refine pl_val (.bool (!r9)) (y_move rfl) ?_
  rcases bif_some hs with ⟨a4, hs⟩ | ⟨a4, hs⟩
  ·skip
   refine pl_not (tg := 19) (by kernel_rfl) (congrArg Value.bool a4) ?_
   refine pl_not (tg := 19) (by kernel_rfl) (congrArg Value.bool a4) ?_
   refine pl_not (tg := 19) (by kernel_rfl) (congrArg Value.bool a4) ?_
   refine pl_not (tg := 19) (by kernel_rfl) (congrArg Value.bool a4) ?_
   refine pl_val (.bool true) (y_pick_t (congrArg Value.bool a4) rfl) ?_
   refine c_nil ?_
   cases hs
   exact ⟨_, fr_ovl 40 ⟨rfl, rfl, rfl, trivial⟩, hMid⟩
  refine pl_yes (.pointer (some ⟨a1, 2, none⟩)) (tg := 19) (by kernel_rfl) (congrArg Value.bool a4) (y_faddr rfl Fa30x2) ?_
  refine pl_yes (.slice pa0 pn0 pc0) (tg := 19) (by kernel_rfl) (congrArg Value.bool a4) (y_load rfl ((box_load Ag28 Sz28 a0 [(.int .i64 net.1), (.int .i64 net.2.1)] [(.slice pa0 pn0 pc0)] [] rfl rfl (fun _ => rfl)) _ (Chg.refl _ _))) ?_
  refine pl_yes (.int .i64 (net.2.2.length : Int)) (tg := 19) (by kernel_rfl) (congrArg Value.bool a4) (y_len' Sl28 (rs_len h0) rfl) ?_
  refine pl_yes (.bool (decide (40 < (net.2.2.length : Int)))) (tg := 19) (by kernel_rfl) (congrArg Value.bool a4) (y_gtr rfl rfl) ?_
  refine pl_val (.bool (decide (40 < (net.2.2.length : Int)))) (y_pick_f (congrArg Value.bool a4) rfl) ?_
  refine c_nil ?_
  cases hs
  exact ⟨_, fr_ovl 40 ⟨rfl, rfl, rfl, trivial⟩, hMid⟩
 rintro c7 c6 ⟨σ, rfl, c0⟩
 have h0 := h0.ext c0
 have a0 := a0.cn c0
 have hC := hC.ext c0
 have hO := hO.ext c0
 rcases bif_some hs with ⟨c3, hs⟩ | ⟨c3, hs⟩
 ·refine c_condT (congrArg Value.bool c3) ?_
  refine c_sr ?_
  refine pl_val (.bool false) (y_assign rfl) ?_
  refine c_nil ?_
  refine wp_ret ?_
  cases hs
  exact ⟨_, fr_ovl 40 ⟨rfl, trivial⟩, hC⟩
 refine c_condF (congrArg Value.bool c3) ?_
 refine wp_skip ?_
 refine c_seq ?_
 refine c_sr ?_
 refine pl_val (.pointer (some ⟨a1, 2, none⟩)) (y_faddr rfl Fa30x2) ?_
 refine pl_val (.slice pa0 pn0 pc0) (y_load rfl ((box_load Ag28 Sz28 a0 [(.int .i64 net.1), (.int .i64 net.2.1)] [(.slice pa0 pn0 pc0)] [] rfl rfl (fun _ => rfl)) _ (Chg.refl _ _))) ?_
 refine pl_val (.int .i64 (net.2.2.length : Int)) (y_len' Sl28 (rs_len h0) rfl) ?_
 refine pl_val (.int .i64 0) (y_move rfl) ?_
 refine c_nil ?_
 obtain ⟨o25, d6, hs⟩ := bind_some hs
 refine wp_block ?_
 refine wp_forR (id := 0) (I := fun i_ xs_ s21 a a2 => ∃ a6 : Nat, i_ = (a6 : Int) ∧ List.drop a6 net.2.2 = xs_ ∧ (∃ (σ : Nat → Value), a = fr 40 (ovl σ [(1, (.pointer (some ⟨a1, 0, none⟩))), (26, (.slice pa0 pn0 pc0)), (27, (.int .i64 (net.2.2.length : Int))), (28, (.int .i64 (a6 : Int)))]) ∧ Chg [] w a2 ∧ Own (Nw w []) M a2 (([a1]) ++ []) ∧ (RT.rs (RT.pr (RT.rs (RT.int .i64)) (RT.pr (RT.int .i64) (RT.rs (RT.rs (RT.int .i64)))))).val M a2 (.slice pa0 pn0 pc0) net.2.2 ([]) ∧ BoxV a2 a1 30 [(.int .i64 net.1), (.int .i64 net.2.1), (.slice pa0 pn0 pc0)])) (J := fun s21 a a2 => ∃ (σ : Nat → Value), a = fr 40 (ovl σ []) ∧ Chg [] w a2 ∧ Own (Nw w []) M a2 (([a1]) ++ []) ∧ (RT.rs (RT.pr (RT.rs (RT.int .i64)) (RT.pr (RT.int .i64) (RT.rs (RT.rs (RT.int .i64)))))).val M a2 (.slice pa0 pn0 pc0) net.2.2 ([]) ∧ BoxV a2 a1 30 [(.int .i64 net.1), (.int .i64 net.2.1), (.slice pa0 pn0 pc0)]) (K := (k_impl_IsNetwork M w)) ?_ ?_ net.2.2 0 () o25 _ _ ?_ d6 ?_
 ·rintro _ s21 a a2 ⟨a6, rfl, hd, σ, rfl, hC, hO, h0, a0⟩
  have hlt := drop_nil_ge hd
  refine c_sr ?_
  refine pl_val (.bool (decide ((a6 : Int) < (net.2.2.length : Int)))) (y_lss rfl rfl) ?_
  refine c_nil ?_
  refine c_seq ?_
  refine c_condF (congrArg Value.bool (decide_eq_false hlt)) ?_
  refine wp_exit ?_
  exact ⟨rfl, _, fr_ovl 40 trivial, hC, hO, h0, a0⟩
 ·rintro _ x24 xs_ s21 o25 a a2 ⟨a6, rfl, hd, σ, rfl, hC, hO, h0, a0⟩ hs
  have hlt := drop_cons_lt hd
  have d7 := drop_cons_idx hd
  refine c_sr ?_
  refine pl_val (.bool (decide ((a6 : Int) < (net.2.2.length : Int)))) (y_lss rfl rfl) ?_
  refine c_nil ?_
  refine c_seq ?_
  refine c_condT (congrArg Value.bool (decide_eq_true hlt)) ?_
  refine wp_skip ?_
  refine c_seq ?_
  refine wp_block ?_
  refine c_sr ?_
  obtain ⟨d8, d9, e0, e1⟩ := rs_idx Sl28 Sz56 h0 d7
  refine pl_val (.pointer (some ⟨d8, d9, none⟩)) (e0 _ _ _ _ _ _ _ _ _ rfl rfl) ?_
  obtain ⟨f4, e2, e3⟩ := at_load Ag56 Sz56 (by intro h; cases h) e1
  obtain ⟨f5, rfl, e4⟩ := e3
  obtain ⟨f6, f7, rfl, e5, e6⟩ := pr_open e4
  obtain ⟨b3, b4, b5, rfl, a7⟩ := rs_rel e5
  obtain ⟨f8, f9, rfl, e7, e8⟩ := pr_open e6
  obtain rfl := int_rel e7
  obtain ⟨b6, b7, b8, rfl, a8⟩ := rs_rel e8
  refine pl_val (.agg #[(.slice b3 b4 b5), (.int .i64 x24.2.1), (.slice b6 b7 b8)]) (y_load rfl (e2 _ (Chg.refl _ _))) ?_
  obtain ⟨e9, c8, f0, c9, b0, d0⟩ := new_block a2 [(.slice none 0 0), (.int .i64 0), (.slice none 0 0)] 56
  refine pl_val (w' := e9) (.pointer (some ⟨c8, 0, none⟩)) (y_alloc (by rw [f0, c9]; kernel_rfl)) ?_
  have h0 := h0.ext b0
  have a0 := a0.cn b0
  have a7 := a7.ext b0
  have a8 := a8.ext b0
  have hC := hC.ext b0
  have hO := hO.new1 b0 c9 d0.lt
  obtain ⟨d1, f1, b1, b9⟩ := box_store (P := Try.prog) d0 [] [(.slice none 0 0), (.int .i64 0), (.slice none 0 0)] [] [(.slice b3 b4 b5), (.int .i64 x24.2.1), (.slice b6 b7 b8)] rfl rfl (by intro u hu; simp only [List.mem_cons, List.not_mem_nil, or_false] at hu; rcases hu with rfl | rfl | rfl <;> rfl)
  refine pl_skip (w' := d1) (ys_store rfl rfl (f1 _ _ rfl Sz56)) ?_
  have h0 := h0.mt b1 hO same_
  have a0 := a0.ap b1 hO same_ (mem_l (List.mem_singleton.2 rfl))
  have a7 := a7.mt b1 hO same_
  have a8 := a8.mt b1 hO same_
  have hC := hC.st b1 hO same_
  have hO := hO.ext b1
  have b9 : BoxV d1 c8 56 [(.slice b3 b4 b5), (.int .i64 x24.2.1), (.slice b6 b7 b8)] := b9
  refine c_nil ?_
  refine c_sr ?_
  refine pl_val (.pointer (some ⟨a1, 0, none⟩)) (y_faddr rfl Fa30x0) ?_
  refine pl_val (.int .i64 net.1) (y_load rfl ((box_load Ag3 Sz3 a0 [] [(.int .i64 net.1)] [(.int .i64 net.2.1), (.slice pa0 pn0 pc0)] rfl rfl (fun _ => rfl)) _ (Chg.refl _ _))) ?_
  refine pl_val (.pointer (some ⟨a1, 1, none⟩)) (y_faddr rfl Fa30x1) ?_
  refine pl_val (.int .i64 net.2.1) (y_load rfl ((box_load Ag3 Sz3 a0 [(.int .i64 net.1)] [(.int .i64 net.2.1)] [(.slice pa0 pn0 pc0)] rfl rfl (fun _ => rfl)) _ (Chg.refl _ _))) ?_
  refine pl_val (.agg #[(.slice b3 b4 b5), (.int .i64 x24.2.1), (.slice b6 b7 b8)]) (y_load rfl ((box_load Ag56 Sz56 b9 [] [(.slice b3 b4 b5), (.int .i64 x24.2.1), (.slice b6 b7 b8)] [] rfl rfl (fun h => nomatch h)) _ (Chg.refl _ _))) ?_
  obtain ⟨r34, f2, hs⟩ := bind_some hs
  refine pl_call Bd78 rfl (c_impl_isConstraint (M := M) net.1 net.2.1 (x24.1, (x24.2.1, x24.2.2)) a7 a8 hO.fut f2) ?_
  rintro _ g0 ⟨rfl, a9⟩
  have h0 := h0.ext a9
  have a0 := a0.cn a9
  have a7 := a7.ext a9
  have a8 := a8.ext a9
  have b9 := b9.cn a9
  have hC := hC.ext a9
  have hO := hO.ext a9
  refine pl_val (.bool (!r34)) (y_not rfl) ?_
  refine c_nil ?_
  rcases bif_some hs with ⟨c4, hs⟩ | ⟨c4, hs⟩
  ·refine c_condT (congrArg Value.bool c4) ?_
   refine c_sr ?_
   refine pl_val (.bool false) (y_assign rfl) ?_
   refine c_nil ?_
   refine wp_ret ?_
   cases hs
   exact ⟨_, fr_ovl 40 ⟨rfl, trivial⟩, hC⟩
  refine c_condF (congrArg Value.bool c4) ?_
  refine wp_skip ?_
  refine c_region ?_
  refine pl_val (.int .i64 (w64 ((a6 : Int) + 1))) (y_add rfl rfl) ?_
  refine pl_val (.int .i64 (w64 ((a6 : Int) + 1))) (y_move rfl) ?_
  refine c_nil ?_
  cases hs
  have hO := hO.drop
  exact ⟨_, rfl, drop_cons_next hd, _, fr_ovl 40 ⟨rfl, rfl, rfl, congrArg (Value.int .i64) (w64_succ hlt (Int.natCast_nonneg _) (rs_max h0)), trivial⟩, hC, hO, h0, a0⟩
 ·skip
  exact ⟨0, rfl, rfl, _, fr_ovl 40 ⟨rfl, rfl, rfl, rfl, trivial⟩, hC, hO, h0, a0⟩
 cases o25 with
 | nx _ => exact True.intro
 | rt r_ =>
  have hs := after_rt hs
  intro c7 d2 hK
  cases hs
  exact hK
 | br s21 =>
  have hs := after_br hs
  rintro c7 a2 ⟨σ, rfl, hC, hO, h0, a0⟩
  refine c_sr ?_
  refine pl_val (.bool true) (y_assign rfl) ?_
  refine c_nil ?_
  refine wp_ret ?_
  cases hs
  exact ⟨_, fr_ovl 40 ⟨rfl, trivial⟩, hC⟩

def k_impl_compose (M : Nat → Prop) (w0 : World) (r : (List Int)) (a : Act) (w : World) : Prop :=
  ∃ (σ : Nat → Value) (ra0 : Option Addr) (rn0 rc0 : Nat) (rf0 : List Nat), a = fr 27 (ovl σ [(4, (.slice ra0 rn0 rc0))]) ∧ Chg [] w0 w ∧ (RT.os 3 (RT.int .i64)).val M w (.slice ra0 rn0 rc0) r rf0 ∧ Own (Nw w0 []) (fun _ => True) w (rf0 ++ ([]))
def s_impl_compose (f : List Int) (g : List Int) : Option ((List Int)) :=
  (mks (f.length : Int) (0 : Int)).bind fun y4 =>
  (forC (S := (List Int)) (R := (List Int)) (fun k23 s21 =>
  (idx f k23).bind fun x29 =>
  (idx g x29).bind fun x31 =>
  (idx s21 k23).bind fun x33 =>
  some (.nx (List.set s21 (Int.toNat k23) x31))) 0 (f.length : Int) y4).bind fun o25 => after o25 (fun r_ => some r_) (fun s21 =>
  some s21)
set_option maxHeartbeats 4000000 in
theorem c_impl_compose {M : Nat → Prop} {w : World} {pa0 : Option Addr} {pn0 pc0 : Nat} {pa1 : Option Addr} {pn1 pc1 : Nat} (f : List Int) (g : List Int) (h0 : (RT.rs (RT.int .i64)).val M w (.slice pa0 pn0 pc0) f ([])) (h1 : (RT.rs (RT.int .i64)).val M w (.slice pa1 pn1 pc1) g ([])) (hM : ∀ g, w.heap.size ≤ g → M g) {r : (List Int)} (hs : s_impl_compose f g = some r) :
    Gives Try.prog 81 [(.slice pa0 pn0 pc0), (.slice pa1 pn1 pc1)] w (fun v w' => ∃ (ra0 : Option Addr) (rn0 rc0 : Nat) (rf0 : List Nat), v = (.slice ra0 rn0 rc0) ∧ Chg [] w w' ∧ (RT.os 3 (RT.int .i64)).val M w' (.slice ra0 rn0 rc0) r rf0 ∧ Own (Nw w []) (fun _ => True) w' (rf0 ++ ([]))) := by
 refine calls_fr Try.func81 rfl Try.ntmps81 (Nat.le_of_ble_eq_true rfl) ?_
 have hO := Own.start (N := Nw w []) hM Nw.fut
 have hC := Chg.refl [] w
 unfold s_impl_compose at hs
 refine wp_mono (Q := KPost (k_impl_compose M w r)) ?_ (fun e a b4 h => ?_)
 rotate_left
 ·cases e
  case ret =>
   obtain ⟨σ, ra0, rn0, rc0, rf0, rfl, hrest⟩ := h
   exact ret1x Try.results81 (res_tmp rfl) ⟨ra0, rn0, rc0, rf0, rfl, hrest⟩
  all_goals exact (h : False).elim
 refine c_sr ?_
 refine pl_val (.slice none 0 0) (y_assign rfl) ?_
 refine c_nil ?_
 refine c_sr ?_
 refine pl_val (.slice pa0 pn0 pc0) (y_move rfl) ?_
 refine pl_val (.int .i64 (f.length : Int)) (y_len' Sl41 (rs_len h0) rfl) ?_
 obtain ⟨y4, b5, hs⟩ := bind_some hs
 obtain ⟨a1, a2, a3, b6, b7, b8, a6, b9, a9⟩ := mk_os (M := M) (w := w) (r := (RT.int .i64)) Rw41 b5 (fun _ _ => ⟨rfl, rfl⟩)
 refine pl_val (w' := b6) (.slice a1 a2 a3) (y_make rfl rfl b8) ?_
 have h0 := h0.ext a6
 have h1 := h1.ext a6
 have hC := hC.ext a6
 have hO := hO.new a6 b9 (os_nodup a9) a9.fpl
 refine pl_val (.slice a1 a2 a3) (y_assign rfl) ?_
 refine c_nil ?_
 refine c_seq ?_
 refine c_sr ?_
 refine pl_val (.slice pa0 pn0 pc0) (y_move rfl) ?_
 refine pl_val (.int .i64 (f.length : Int)) (y_len' Sl41 (rs_len h0) rfl) ?_
 refine pl_val (.int .i64 0) (y_move rfl) ?_
 refine c_nil ?_
 obtain ⟨o25, c0, hs⟩ := bind_some hs
 refine wp_block ?_
 refine wp_forC (id := 0) (f.length : Int) (I := fun k23 s21 a a0 => ∃ (σ : Nat → Value) (a4 : List Nat), a = fr 27 (ovl σ [(1, (.slice pa1 pn1 pc1)), (5, (.slice a1 a2 a3)), (11, (.slice pa0 pn0 pc0)), (12, (.int .i64 (f.length : Int))), (13, (.int .i64 k23))]) ∧ Chg [] w a0 ∧ Own (Nw w []) M a0 (a4 ++ []) ∧ (RT.rs (RT.int .i64)).val M a0 (.slice pa0 pn0 pc0) f ([]) ∧ (RT.rs (RT.int .i64)).val M a0 (.slice pa1 pn1 pc1) g ([]) ∧ (RT.os 3 (RT.int .i64)).val M a0 (.slice a1 a2 a3) s21 a4) (J := fun s21 a a0 => ∃ (σ : Nat → Value) (a7 : List Nat), a = fr 27 (ovl σ [(5, (.slice a1 a2 a3))]) ∧ Chg [] w a0 ∧ Own (Nw w []) M a0 (a7 ++ []) ∧ (RT.rs (RT.int .i64)).val M a0 (.slice pa0 pn0 pc0) f ([]) ∧ (RT.rs (RT.int .i64)).val M a0 (.slice pa1 pn1 pc1) g ([]) ∧ (RT.os 3 (RT.int .i64)).val M a0 (.slice a1 a2 a3) s21 a7) (K := (k_impl_compose M w)) ?_ ?_ 0 y4 o25 _ _ ?_ c0 ?_
 ·rintro k23 s21 a a0 ⟨σ, a4, rfl, hC, hO, h0, h1, a5⟩ hlt
  refine c_sr ?_
  refine pl_val (.bool (decide (k23 < (f.length : Int)))) (y_lss rfl rfl) ?_
  refine c_nil ?_
  refine c_seq ?_
  refine c_condF (congrArg Value.bool (decide_eq_false hlt)) ?_
  refine wp_exit ?_
  exact ⟨rfl, _, a4, fr_ovl 27 ⟨rfl, trivial⟩, hC, hO, h0, h1, a5⟩
 ·rintro k23 s21 o25 a a0 ⟨σ, a4, rfl, hC, hO, h0, h1, a5⟩ hlt hw hs
  refine c_sr ?_
  refine pl_val (.bool (decide (k23 < (f.length : Int)))) (y_lss rfl rfl) ?_
  refine c_nil ?_
  refine c_seq ?_
  refine c_condT (congrArg Value.bool (decide_eq_true hlt)) ?_
  refine wp_skip ?_
  refine c_seq ?_
  refine wp_block ?_
  refine c_sr ?_
  refine pl_val (.int .i64 k23) (y_move rfl) ?_
  obtain ⟨x29, c1, hs⟩ := bind_some hs
  obtain ⟨c2, c3, c4, c5⟩ := rs_idx Sl41 Sz3 h0 c1
  refine pl_val (.pointer (some ⟨c2, c3, none⟩)) (c4 _ _ _ _ _ _ _ _ _ rfl rfl) ?_
  refine pl_val (.int .i64 x29) (y_load rfl ((at_load_int Ag3 Sz3 c5) _ (Chg.refl _ _))) ?_
  refine pl_val (.int .i64 k23) (y_assign rfl) ?_
  refine pl_val (.int .i64 x29) (y_assign rfl) ?_
  refine c_nil ?_
  refine c_region ?_
  refine pl_val (.slice a1 a2 a3) (y_move rfl) ?_
  refine pl_val (.int .i64 k23) (y_move rfl) ?_
  refine pl_val (.slice pa1 pn1 pc1) (y_move rfl) ?_
  refine pl_val (.int .i64 x29) (y_move rfl) ?_
  obtain ⟨x31, c6, hs⟩ := bind_some hs
  obtain ⟨c7, c8, c9, d0⟩ := rs_idx Sl41 Sz3 h1 c6
  refine pl_val (.pointer (some ⟨c7, c8, none⟩)) (c9 _ _ _ _ _ _ _ _ _ rfl rfl) ?_
  refine pl_val (.int .i64 x31) (y_load rfl ((at_load_int Ag3 Sz3 d0) _ (Chg.refl _ _))) ?_
  obtain ⟨x33, d1, hs⟩ := bind_some hs
  obtain ⟨b2, e0, b3, d2, d3, e1, e2⟩ := os_idx Sl41 Sz3 a5 d1
  refine pl_val (.pointer (some ⟨b2, 0 + Int.toNat k23 * 1, none⟩)) (d3 _ _ _ _ _ _ _ _ _ rfl rfl) ?_
  obtain ⟨d4, d5, d6, a8, d7, b0⟩ := os_store (P := Try.prog) (c' := [(.int .i64 x31)]) b3 a5 d2 (fun g hg => hO.inM g (os_block a5 g (by simpa using hg))) ⟨rfl, rfl⟩ List.nodup_nil (fun _ h => nomatch h) (fun _ h => .inl h)
  have b1 : ∀ q ∈ [b2], q ∈ a4 := fun q hq => os_block a5 q (by rw [b3]; exact hq)
  refine pl_skip (w' := d4) (ys_store rfl rfl (d6 _ _ rfl Sz3)) ?_
  have h0 := h0.mt a8 hO b1
  have h1 := h1.mt a8 hO b1
  have hC := hC.st a8 hO b1
  have hO := hO.grow a8 (fun q hq => .inl ((d7 q hq).resolve_right (fun h => nomatch h))) (os_nodup b0) b0.fpl
  refine c_nil ?_
  refine c_region ?_
  refine pl_val (.int .i64 (w64 (k23 + 1))) (y_add rfl rfl) ?_
  refine pl_val (.int .i64 (w64 (k23 + 1))) (y_move rfl) ?_
  refine c_nil ?_
  cases hs
  exact ⟨_, d5, fr_ovl 27 ⟨rfl, rfl, rfl, rfl, congrArg (Value.int .i64) hw, trivial⟩, hC, hO, h0, h1, b0⟩
 ·skip
  exact ⟨_, b7, fr_ovl 27 ⟨rfl, rfl, rfl, rfl, rfl, trivial⟩, hC, hO, h0, h1, a9⟩
 cases o25 with
 | nx _ => exact True.intro
 | rt r_ =>
  have hs := after_rt hs
  intro d8 b4 hK
  cases hs
  exact hK
 | br s21 =>
  have hs := after_br hs
  rintro d8 a0 ⟨σ, a7, rfl, hC, hO, h0, h1, d9⟩
  refine c_sr ?_
  refine pl_val (.slice a1 a2 a3) (y_move rfl) ?_
  refine pl_val (.slice a1 a2 a3) (y_assign rfl) ?_
  refine c_nil ?_
  refine wp_ret ?_
  cases hs
  exact ⟨_, a1, a2, a3, a7, fr_ovl 27 ⟨rfl, trivial⟩, hC, d9, hO.top⟩

def k_impl_sameList (M : Nat → Prop) (w0 : World) (r : Bool) (a : Act) (w : World) : Prop :=
  ∃ (σ : Nat → Value) , a = fr 26 (ovl σ [(4, (.bool r))]) ∧ Chg [] w0 w
def s_impl_sameList (a_ : List Int) (b : List Int) : Option (Bool) :=
  (bif ((a_.length : Int) != (b.length : Int)) then some false else (forC (S := Unit) (R := Bool) (fun k11 s9 =>
  (idx a_ k11).bind fun x15 =>
  (idx b k11).bind fun x17 =>
  (bif (x17 != x15) then some (.rt false) else some (.nx ()))) 0 (a_.length : Int) ()).bind fun o13 => after o13 (fun r_ => some r_) (fun s9 =>
  some true))
set_option maxHeartbeats 4000000 in
theorem c_impl_sameList {M : Nat → Prop} {w : World} {pa0 : Option Addr} {pn0 pc0 : Nat} {pa1 : Option Addr} {pn1 pc1 : Nat} (a_ : List Int) (b : List Int) (h0 : (RT.rs (RT.int .i64)).val M w (.slice pa0 pn0 pc0) a_ ([])) (h1 : (RT.rs (RT.int .i64)).val M w (.slice pa1 pn1 pc1) b ([])) (hM : ∀ g, w.heap.size ≤ g → M g) {r : Bool} (hs : s_impl_sameList a_ b = some r) :
    Gives Try.prog 119 [(.slice pa0 pn0 pc0), (.slice pa1 pn1 pc1)] w (fun v w' => v = (.bool r) ∧ Chg [] w w') := by
 refine calls_fr Try.func119 rfl Try.ntmps119 (Nat.le_of_ble_eq_true rfl) ?_
 have hO := Own.start (N := Nw w []) hM Nw.fut
 have hC := Chg.refl [] w
 unfold s_impl_sameList at hs
 refine wp_mono (Q := KPost (k_impl_sameList M w r)) ?_ (fun e a a3 h => ?_)
 rotate_left
 ·cases e
  case ret =>
   obtain ⟨σ, rfl, hrest⟩ := h
   exact ret1x Try.results119 (res_tmp rfl) ⟨rfl, hrest⟩
  all_goals exact (h : False).elim
 refine c_sr ?_
 refine pl_val (.bool false) (y_assign rfl) ?_
 refine c_nil ?_
 refine c_seq ?_
 refine c_sr ?_
 refine pl_val (.slice pa0 pn0 pc0) (y_move rfl) ?_
 refine pl_val (.int .i64 (a_.length : Int)) (y_len' Sl41 (rs_len h0) rfl) ?_
 refine pl_val (.slice pa1 pn1 pc1) (y_move rfl) ?_
 refine pl_val (.int .i64 (b.length : Int)) (y_len' Sl41 (rs_len h1) rfl) ?_
 refine pl_val (.bool ((a_.length : Int) != (b.length : Int))) (y_neq rfl rfl) ?_
 refine c_nil ?_
 rcases bif_some hs with ⟨a1, hs⟩ | ⟨a1, hs⟩
 ·refine c_condT (congrArg Value.bool a1) ?_
  refine c_sr ?_
  refine pl_val (.bool false) (y_assign rfl) ?_
  refine c_nil ?_
  refine wp_ret ?_
  cases hs
  exact ⟨_, fr_ovl 26 ⟨rfl, trivial⟩, hC⟩
 refine c_condF (congrArg Value.bool a1) ?_
 refine wp_skip ?_
 refine c_seq ?_
 refine c_sr ?_
 refine pl_val (.slice pa0 pn0 pc0) (y_move rfl) ?_
 refine pl_val (.int .i64 (a_.length : Int)) (y_len' Sl41 (rs_len h0) rfl) ?_
 refine pl_val (.int .i64 0) (y_move rfl) ?_
 refine c_nil ?_
 obtain ⟨o13, a4, hs⟩ := bind_some hs
 refine wp_block ?_
 refine wp_forC (id := 0) (a_.length : Int) (I := fun k11 s9 a a0 => ∃ (σ : Nat → Value), a = fr 26 (ovl σ [(1, (.slice pa1 pn1 pc1)), (12, (.slice pa0 pn0 pc0)), (13, (.int .i64 (a_.length : Int))), (14, (.int .i64 k11))]) ∧ Chg [] w a0 ∧ Own (Nw w []) M a0 ([]) ∧ (RT.rs (RT.int .i64)).val M a0 (.slice pa0 pn0 pc0) a_ ([]) ∧ (RT.rs (RT.int .i64)).val M a0 (.slice pa1 pn1 pc1) b ([])) (J := fun s9 a a0 => ∃ (σ : Nat → Value), a = fr 26 (ovl σ []) ∧ Chg [] w a0 ∧ Own (Nw w []) M a0 ([]) ∧ (RT.rs (RT.int .i64)).val M a0 (.slice pa0 pn0 pc0) a_ ([]) ∧ (RT.rs (RT.int .i64)).val M a0 (.slice pa1 pn1 pc1) b ([])) (K := (k_impl_sameList M w)) ?_ ?_ 0 () o13 _ _ ?_ a4 ?_
 ·rintro k11 s9 a a0 ⟨σ, rfl, hC, hO, h0, h1⟩ hlt
  refine c_sr ?_
  refine pl_val (.bool (decide (k11 < (a_.length : Int)))) (y_lss rfl rfl) ?_
  refine c_nil ?_
  refine c_seq ?_
  refine c_condF (congrArg Value.bool (decide_eq_false hlt)) ?_
  refine wp_exit ?_
  exact ⟨rfl, _, fr_ovl 26 trivial, hC, hO, h0, h1⟩
 ·rintro k11 s9 o13 a a0 ⟨σ, rfl, hC, hO, h0, h1⟩ hlt hw hs
  refine c_sr ?_
  refine pl_val (.bool (decide (k11 < (a_.length : Int)))) (y_lss rfl rfl) ?_
  refine c_nil ?_
  refine c_seq ?_
  refine c_condT (congrArg Value.bool (decide_eq_true hlt)) ?_
  refine wp_skip ?_
  refine c_seq ?_
  refine wp_block ?_
  refine c_sr ?_
  refine pl_val (.int .i64 k11) (y_move rfl) ?_
  obtain ⟨x15, a5, hs⟩ := bind_some hs
  obtain ⟨a6, a7, a8, a9⟩ := rs_idx Sl41 Sz3 h0 a5
  refine pl_val (.pointer (some ⟨a6, a7, none⟩)) (a8 _ _ _ _ _ _ _ _ _ rfl rfl) ?_
  refine pl_val (.int .i64 x15) (y_load rfl ((at_load_int Ag3 Sz3 a9) _ (Chg.refl _ _))) ?_
  refine pl_val (.int .i64 k11) (y_assign rfl) ?_
  refine pl_val (.int .i64 x15) (y_assign rfl) ?_
  refine c_nil ?_
  refine c_sr ?_
  refine pl_val (.slice pa1 pn1 pc1) (y_move rfl) ?_
  refine pl_val (.int .i64 k11) (y_move rfl) ?_
  obtain ⟨x17, b0, hs⟩ := bind_some hs
  obtain ⟨b1, b2, b3, b4⟩ := rs_idx Sl41 Sz3 h1 b0
  refine pl_val (.pointer (some ⟨b1, b2, none⟩)) (b3 _ _ _ _ _ _ _ _ _ rfl rfl) ?_
  refine pl_val (.int .i64 x17) (y_load rfl ((at_load_int Ag3 Sz3 b4) _ (Chg.refl _ _))) ?_
  refine pl_val (.int .i64 x15) (y_move rfl) ?_
  refine pl_val (.bool (x17 != x15)) (y_neq rfl rfl) ?_
  refine c_nil ?_
  rcases bif_some hs with ⟨a2, hs⟩ | ⟨a2, hs⟩
  ·refine c_condT (congrArg Value.bool a2) ?_
   refine c_sr ?_
   refine pl_val (.bool false) (y_assign rfl) ?_
   refine c_nil ?_
   refine wp_ret ?_
   cases hs
   exact ⟨_, fr_ovl 26 ⟨rfl, trivial⟩, hC⟩
  refine c_condF (congrArg Value.bool a2) ?_
  refine wp_skip ?_
  refine c_region ?_
  refine pl_val (.int .i64 (w64 (k11 + 1))) (y_add rfl rfl) ?_
  refine pl_val (.int .i64 (w64 (k11 + 1))) (y_move rfl) ?_
  refine c_nil ?_
  cases hs
  exact ⟨_, fr_ovl 26 ⟨rfl, rfl, rfl, congrArg (Value.int .i64) hw, trivial⟩, hC, hO, h0, h1⟩
 ·skip
  exact ⟨_, fr_ovl 26 ⟨rfl, rfl, rfl, rfl, trivial⟩, hC, hO, h0, h1⟩
 cases o13 with
 | nx _ => exact True.intro
 | rt r_ =>
  have hs := after_rt hs
  intro b5 a3 hK
  cases hs
  exact hK
 | br s9 =>
  have hs := after_br hs
  rintro b5 a0 ⟨σ, rfl, hC, hO, h0, h1⟩
  refine c_sr ?_
  refine pl_val (.bool true) (y_assign rfl) ?_
  refine c_nil ?_
  refine wp_ret ?_
  cases hs
  exact ⟨_, fr_ovl 26 ⟨rfl, trivial⟩, hC⟩

theorem Bd119 : Bodied Try.prog 119 := bodied Try.func119 (by kernel_rfl) rfl

end Go.Proofs
