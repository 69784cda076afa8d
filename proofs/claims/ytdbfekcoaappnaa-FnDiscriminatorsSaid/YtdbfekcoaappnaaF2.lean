/- What functions of the program compute, as plain functions, and that a call gives just that. Conditions: those named in each theorem. -/
import Derived.Test.YtdbfekcoaappnaaF1
set_option linter.unusedVariables false
namespace Go.Proofs
open Go.G Go.RowKit
set_option maxRecDepth 100000

def k_spec_l1Cur__op13 (M : Nat → Prop) (w0 : World) (vg0 : Nat) (va0x0 : Option Addr) (vn0x0 vc0x0 : Nat) (n : Int) (arity : Int) (b0 : (List Int) × Int × Int) (r : (Int × (List Int)) × Int × Int) (a : Act) (w : World) : Prop :=
  ∃ (σ : Nat → Value) (rg6 : Nat) (ra0 : Option Addr) (rn0 rc0 : Nat) (rf0 : List Nat), a = fr 100 (ovl σ [(6, (.pointer (some ⟨rg6, 0, none⟩)))]) ∧ BoxV w rg6 27 [(.int .i64 r.1.1), (.slice ra0 rn0 rc0)] ∧ Chg ([vg0] ++ ([])) w0 w ∧ (RT.os 3 (RT.int .i64)).val M w (.slice ra0 rn0 rc0) r.1.2 rf0 ∧ BoxV w vg0 53 [(.slice va0x0 vn0x0 vc0x0), (.int .i64 r.2.1), (.int .u64 r.2.2)] ∧ Own (Nw w0 ([vg0] ++ ([]))) (fun _ => True) w (rf0 ++ ([vg0] ++ ([])))
def s_spec_l1Cur__op13 (n : Int) (arity : Int) (b0 : (List Int) × Int × Int) : Option ((Int × (List Int)) × Int × Int) :=
  ((s_spec_l6Size n).bind fun r12 =>
  (bif (!r12) then some true else (s_spec_l1In arity 0 3).bind fun r15 =>
  some (!r15))).bind fun s8 =>
  (bif s8 then some ((arity, []), b0.2.1, b0.2.2) else (iter (S := Int × Int × Int) (R := (Int × (List Int)) × Int × Int) (fun s113 =>
  ((bif (decide (s113.1 < 8)) then (s_spec_l1Cur__one 2 (b0.1, s113.2.1, s113.2.2)).bind fun r130 =>
  some (r130.1, r130.2.1, r130.2.2) else some (false, s113.2.1, s113.2.2))).bind fun s125 =>
  (bif s125.1 then (s_spec_l1Cur__pick 17 (b0.1, s125.2.1, s125.2.2)).bind fun r134 =>
  (s_spec_l2Known r134.1).bind fun r136 =>
  (bif ((r136.1 == n) && (decide (0 < (r136.2.length : Int)))) then (s_spec_l1Cur__pick (r136.2.length : Int) (b0.1, r134.2.1, r134.2.2)).bind fun r147 =>
  (idx r136.2 r147.1).bind fun x148 =>
  (s_spec_l2Copy (x148.1, x148.2)).bind fun r153 =>
  some (.rt ((r153.1, r153.2), r147.2.1, r147.2.2)) else some (.nx (w64 (s113.1 + 1), r134.2.1, r134.2.2))) else some (.br (s113.1, s125.2.1, s125.2.2)))) FU (0, b0.2.1, b0.2.2)).bind fun o117 => after o117 (fun r_ => some r_) (fun s113 =>
  (iter (S := Int × Int × Int × (List Int)) (R := (Int × (List Int)) × Int × Int) (fun s300 =>
  (s_spec_l2Pow n arity).bind fun r311 =>
  (bif (decide (s300.1 < r311)) then (s_spec_l2Args n arity s300.1).bind fun r314 =>
  ((bif (decide (0 < (r314.length : Int))) then (s_spec_l1Cur__one 3 (b0.1, s300.2.1, s300.2.2.1)).bind fun r327 =>
  some ((!r327.1), r327.2.1, r327.2.2) else some (false, s300.2.1, s300.2.2.1))).bind fun s322 =>
  (bif s322.1 then (s_spec_l1Cur__among r314 (b0.1, s322.2.1, s322.2.2)).bind fun r332 =>
  (app s300.2.2.2 ([r332.1])).bind fun y336 =>
  some (.nx (w64 (s300.1 + 1), r332.2.1, r332.2.2, y336)) else (s_spec_l1Cur__pick n (b0.1, s322.2.1, s322.2.2)).bind fun r355 =>
  (app s300.2.2.2 ([r355.1])).bind fun y359 =>
  some (.nx (w64 (s300.1 + 1), r355.2.1, r355.2.2, y359))) else some (.br (s300.1, s300.2.1, s300.2.2.1, s300.2.2.2)))) FU (0, s113.2.1, s113.2.2, [])).bind fun o304 => after o304 (fun r_ => some r_) (fun s300 =>
  (s_spec_l1Cur__one 32 (b0.1, s300.2.1, s300.2.2.1)).bind fun r377 =>
  (bif r377.1 then (s_spec_l1Cur__among ([(-1), n]) (b0.1, r377.2.1, r377.2.2)).bind fun r383 =>
  (idx s300.2.2.2 0).bind fun x384 =>
  some ((arity, List.set s300.2.2.2 (Int.toNat 0) r383.1), r383.2.1, r383.2.2) else some ((arity, s300.2.2.2), r377.2.1, r377.2.2)))))
set_option maxHeartbeats 4000000 in
theorem c_spec_l1Cur__op13 {M : Nat → Prop} {w : World} {vg0 : Nat} {va0x0 : Option Addr} {vn0x0 vc0x0 : Nat} (n : Int) (arity : Int) (b0 : (List Int) × Int × Int) (hb0 : BoxV w vg0 53 [(.slice va0x0 vn0x0 vc0x0), (.int .i64 b0.2.1), (.int .u64 b0.2.2)]) (hl0x0 : (RT.rs (RT.int .u8)).val M w (.slice va0x0 vn0x0 vc0x0) b0.1 ([])) (hI : Own (Nw w ([vg0] ++ ([]))) M w ([vg0] ++ ([]))) (hM : ∀ g, w.heap.size ≤ g → M g) {r : (Int × (List Int)) × Int × Int} (hs : s_spec_l1Cur__op13 n arity b0 = some r) :
    Gives Try.prog 92 [(.pointer (some ⟨vg0, 0, none⟩)), (.int .i64 n), (.int .i64 arity)] w (fun v w' => ∃ (ra0 : Option Addr) (rn0 rc0 : Nat) (rf0 : List Nat), v = (.agg #[(.int .i64 r.1.1), (.slice ra0 rn0 rc0)]) ∧ Chg ([vg0] ++ ([])) w w' ∧ (RT.os 3 (RT.int .i64)).val M w' (.slice ra0 rn0 rc0) r.1.2 rf0 ∧ BoxV w' vg0 53 [(.slice va0x0 vn0x0 vc0x0), (.int .i64 r.2.1), (.int .u64 r.2.2)] ∧ Own (Nw w ([vg0] ++ ([]))) (fun _ => True) w' (rf0 ++ ([vg0] ++ ([])))) := by
 refine calls_fr Try.func92 rfl Try.ntmps92 (Nat.le_of_ble_eq_true rfl) ?_
 have hO := hI
 have hC := Chg.refl ([vg0] ++ ([])) w
 unfold s_spec_l1Cur__op13 at hs
 refine wp_mono (Q := KPost (k_spec_l1Cur__op13 M w vg0 va0x0 vn0x0 vc0x0 n arity b0 r)) ?_ (fun e a v9 h => ?_)
 rotate_left
 ·cases e
  case ret =>
   obtain ⟨σ, rg6, ra0, rn0, rc0, rf0, rfl, hbrg6, hrest⟩ := h
   exact ret1x Try.results92 (res_cell rfl (box_load Ag27 Sz27 hbrg6 [] _ [] rfl rfl (fun h => nomatch h))) ⟨ra0, rn0, rc0, rf0, rfl, hrest⟩
  all_goals exact (h : False).elim
 refine c_sr ?_
 obtain ⟨w1, a3, D0, w2, o1, a1⟩ := new_block w [(.int .i64 0), (.slice none 0 0)] 27
 refine pl_val (w' := w1) (.pointer (some ⟨a3, 0, none⟩)) (y_alloc (by rw [D0, w2]; kernel_rfl)) ?_
 have hl0x0 := hl0x0.ext o1
 have hb0 := hb0.cn o1
 have hC := hC.ext o1
 have hO := hO.new1 o1 w2 a1.lt
 refine c_nil ?_
 refine c_sr ?_
 refine pl_val (.int .i64 arity) (y_move rfl) ?_
 obtain ⟨q3, a7, D1, w3, m0, w4⟩ := new_block w1 [] 3
 refine pl_val (w' := q3) (.slice (some ⟨a7, 0, none⟩) 0 0) (y_bslice rfl (by rw [D1, w3]; kernel_rfl)) ?_
 have hl0x0 := hl0x0.ext m0
 have hb0 := hb0.cn m0
 have a1 := a1.cn m0
 have hC := hC.ext m0
 have hO := hO.new1 m0 w3 w4.lt
 have a5 := os_of_box (r := (RT.int .i64)) (M := M) (css := []) (fps := []) (xs := ([] : List Int)) w4 trivial (Nat.zero_le _) (List.nodup_cons.2 ⟨(fun h => nomatch h), List.nodup_nil⟩)
 have a5 : (RT.os 3 (RT.int .i64)).val M q3 (.slice (some ⟨a7, 0, none⟩) 0 0) [] [a7] := a5
 refine pl_val (.agg #[(.int .i64 arity), (.slice (some ⟨a7, 0, none⟩) 0 0)]) (y_build rfl (by kernel_rfl)) ?_
 obtain ⟨D2, a2, D3, w5, k3, w6⟩ := new_block q3 [(.int .i64 0), (.slice none 0 0)] 27
 refine pl_val (w' := D2) (.pointer (some ⟨a2, 0, none⟩)) (y_alloc (by rw [D3, w5]; kernel_rfl)) ?_
 have hl0x0 := hl0x0.ext k3
 have hb0 := hb0.cn k3
 have a1 := a1.cn k3
 have a5 := a5.ext k3
 have hC := hC.ext k3
 have hO := hO.new1 k3 w5 w6.lt
 obtain ⟨o2, D4, k4, a0⟩ := box_store (P := Try.prog) w6 [] [(.int .i64 0), (.slice none 0 0)] [] [(.int .i64 arity), (.slice (some ⟨a7, 0, none⟩) 0 0)] rfl rfl (by intro u hu; simp only [List.mem_cons, List.not_mem_nil, or_false] at hu; rcases hu with rfl | rfl <;> rfl)
 refine pl_skip (w' := o2) (ys_store rfl rfl (D4 _ _ rfl Sz27)) ?_
 have hl0x0 := hl0x0.mt k4 hO same_
 have hb0 := hb0.ap k4 hO same_ (mem_r (mem_r (mem_l (List.mem_singleton.2 rfl))))
 have a1 := a1.ap k4 hO same_ (mem_r (mem_l (List.mem_singleton.2 rfl)))
 have a5 := a5.ma k4 hO same_ (fun _ e => (mem_l (e)))
 have hC := hC.st k4 hO same_
 have hO := hO.ext k4
 have a0 : BoxV o2 a2 27 [(.int .i64 arity), (.slice (some ⟨a7, 0, none⟩) 0 0)] := a0
 refine c_nil ?_
 refine c_seq ?_
 refine c_seq ?_
 obtain ⟨s8, D5, hs⟩ := bind_some hs
 refine c_mid (I := fun a w7 => ∃ (σ : Nat → Value), a = fr 100 (ovl σ [(0, (.pointer (some ⟨vg0, 0, none⟩))), (1, (.int .i64 n)), (2, (.int .i64 arity)), (6, (.pointer (some ⟨a3, 0, none⟩))), (7, (.pointer (some ⟨a2, 0, none⟩))), (22, (.bool s8))]) ∧ Chg [] o2 w7) ?_ ?_
 ·replace hs := D5
  have hMid := Chg.refl [] o2
  refine c_region ?_
  refine pl_val (.int .i64 n) (y_move rfl) ?_
  obtain ⟨r12, D6, hs⟩ := bind_some hs
  refine pl_call Bd34 rfl (c_spec_l6Size (M := M) n  hO.fut D6) ?_
  rintro _ R6 ⟨rfl, f1⟩
  have hl0x0 := hl0x0.ext f1
  have hb0 := hb0.cn f1
  have a1 := a1.cn f1
  have a5 := a5.ext f1
  have a0 := a0.cn f1
  have hMid := hMid.ext f1
  have hC := hC.ext f1
  have hO := hO.ext f1
  refine pl_val (.bool (!r12)) (y_not rfl) ?_
  refine pl_val (.bool (!r12)) (y_move rfl) ?_
  rcases bif_some hs with ⟨e0, hs⟩ | ⟨e0, hs⟩
  ·skip
   refine pl_not (tg := 18) (by kernel_rfl) (congrArg Value.bool e0) ?_
   refine pl_not (tg := 18) (by kernel_rfl) (congrArg Value.bool e0) ?_
   refine pl_not (tg := 18) (by kernel_rfl) (congrArg Value.bool e0) ?_
   refine pl_val (.bool true) (y_pick_t (congrArg Value.bool e0) rfl) ?_
   refine c_nil ?_
   cases hs
   exact ⟨_, fr_ovl 100 ⟨rfl, rfl, rfl, rfl, rfl, rfl, trivial⟩, hMid⟩
  refine pl_yes (.int .i64 arity) (tg := 18) (by kernel_rfl) (congrArg Value.bool e0) (y_move rfl) ?_
  obtain ⟨r15, D7, hs⟩ := bind_some hs
  refine pl_cally (tg := 18) (by kernel_rfl) (congrArg Value.bool e0) Bd64 rfl (c_spec_l1In (M := M) arity 0 3  hO.fut D7) ?_
  rintro _ R7 ⟨rfl, f2⟩
  have hl0x0 := hl0x0.ext f2
  have hb0 := hb0.cn f2
  have a1 := a1.cn f2
  have a5 := a5.ext f2
  have a0 := a0.cn f2
  have hMid := hMid.ext f2
  have hC := hC.ext f2
  have hO := hO.ext f2
  refine pl_yes (.bool (!r15)) (tg := 18) (by kernel_rfl) (congrArg Value.bool e0) (y_not rfl) ?_
  refine pl_val (.bool (!r15)) (y_pick_f (congrArg Value.bool e0) rfl) ?_
  refine c_nil ?_
  cases hs
  exact ⟨_, fr_ovl 100 ⟨rfl, rfl, rfl, rfl, rfl, rfl, trivial⟩, hMid⟩
 rintro g5 w7 ⟨σ, rfl, g6⟩
 have hl0x0 := hl0x0.ext g6
 have hb0 := hb0.cn g6
 have a1 := a1.cn g6
 have a5 := a5.ext g6
 have a0 := a0.cn g6
 have hC := hC.ext g6
 have hO := hO.ext g6
 rcases bif_some hs with ⟨q4, hs⟩ | ⟨q4, hs⟩
 ·refine c_condT (congrArg Value.bool q4) ?_
  refine c_sr ?_
  refine pl_val (.agg #[(.int .i64 arity), (.slice (some ⟨a7, 0, none⟩) 0 0)]) (y_load rfl ((box_load Ag27 Sz27 a0 [] [(.int .i64 arity), (.slice (some ⟨a7, 0, none⟩) 0 0)] [] rfl rfl (fun h => nomatch h)) _ (Chg.refl _ _))) ?_
  obtain ⟨w8, D8, k5, q5⟩ := box_store (P := Try.prog) a1 [] [(.int .i64 0), (.slice none 0 0)] [] [(.int .i64 arity), (.slice (some ⟨a7, 0, none⟩) 0 0)] rfl rfl (by intro u hu; simp only [List.mem_cons, List.not_mem_nil, or_false] at hu; rcases hu with rfl | rfl <;> rfl)
  refine pl_skip (w' := w8) (ys_store rfl rfl (D8 _ _ rfl Sz27)) ?_
  have hO := hO.fr2
  have hl0x0 := hl0x0.mt k5 hO same_
  have hb0 := hb0.ap k5 hO same_ (mem_r (mem_r (mem_l (List.mem_singleton.2 rfl))))
  have a5 := a5.ma k5 hO same_ (fun _ e => (mem_r (mem_l (e))))
  have a0 := a0.ap k5 hO same_ (mem_l (List.mem_singleton.2 rfl))
  have hC := hC.st k5 hO same_
  have hO := hO.ext k5
  have q5 : BoxV w8 a3 27 [(.int .i64 arity), (.slice (some ⟨a7, 0, none⟩) 0 0)] := q5
  refine c_nil ?_
  refine wp_ret ?_
  cases hs
  have hO := hO.drop
  have hO := hO.drop
  have hO := hO.fr1
  have hO := hO.fr1
  exact ⟨_, a3, (some ⟨a7, 0, none⟩), 0, 0, ([a7]), fr_ovl 100 ⟨rfl, trivial⟩, q5, hC, a5, hb0, hO.top⟩
 refine c_condF (congrArg Value.bool q4) ?_
 refine wp_skip ?_
 refine c_seq ?_
 refine c_sr ?_
 refine pl_val (.int .i64 0) (y_assign rfl) ?_
 refine c_nil ?_
 obtain ⟨o117, D9, hs⟩ := bind_some hs
 refine wp_block ?_
 refine wp_iter (id := 0) (I := fun s113 a c1 => ∃ (σ : Nat → Value), a = fr 100 (ovl σ [(0, (.pointer (some ⟨vg0, 0, none⟩))), (1, (.int .i64 n)), (2, (.int .i64 arity)), (6, (.pointer (some ⟨a3, 0, none⟩))), (7, (.pointer (some ⟨a2, 0, none⟩))), (8, (.int .i64 s113.1))]) ∧ Chg ([vg0] ++ ([])) w c1 ∧ Own (Nw w ([vg0] ++ ([]))) M c1 (([a2]) ++ (([a7]) ++ (([a3]) ++ (([vg0]) ++ [])))) ∧ (RT.rs (RT.int .u8)).val M c1 (.slice va0x0 vn0x0 vc0x0) b0.1 ([]) ∧ BoxV c1 vg0 53 [(.slice va0x0 vn0x0 vc0x0), (.int .i64 s113.2.1), (.int .u64 s113.2.2)] ∧ BoxV c1 a3 27 [(.int .i64 0), (.slice none 0 0)] ∧ (RT.os 3 (RT.int .i64)).val M c1 (.slice (some ⟨a7, 0, none⟩) 0 0) ([]) ([a7]) ∧ BoxV c1 a2 27 [(.int .i64 arity), (.slice (some ⟨a7, 0, none⟩) 0 0)]) (J := fun s113 a c1 => ∃ (σ : Nat → Value), a = fr 100 (ovl σ [(0, (.pointer (some ⟨vg0, 0, none⟩))), (1, (.int .i64 n)), (2, (.int .i64 arity)), (6, (.pointer (some ⟨a3, 0, none⟩))), (7, (.pointer (some ⟨a2, 0, none⟩)))]) ∧ Chg ([vg0] ++ ([])) w c1 ∧ Own (Nw w ([vg0] ++ ([]))) M c1 (([a2]) ++ (([a7]) ++ (([a3]) ++ (([vg0]) ++ [])))) ∧ (RT.rs (RT.int .u8)).val M c1 (.slice va0x0 vn0x0 vc0x0) b0.1 ([]) ∧ BoxV c1 vg0 53 [(.slice va0x0 vn0x0 vc0x0), (.int .i64 s113.2.1), (.int .u64 s113.2.2)] ∧ BoxV c1 a3 27 [(.int .i64 0), (.slice none 0 0)] ∧ (RT.os 3 (RT.int .i64)).val M c1 (.slice (some ⟨a7, 0, none⟩) 0 0) ([]) ([a7]) ∧ BoxV c1 a2 27 [(.int .i64 arity), (.slice (some ⟨a7, 0, none⟩) 0 0)]) (K := (k_spec_l1Cur__op13 M w vg0 va0x0 vn0x0 vc0x0 n arity b0)) ?_ FU (0, b0.2.1, b0.2.2) o117 _ _ ?_ D9 ?_
 ·rintro s113 o117 a c1 ⟨σ, rfl, hC, hO, hl0x0, hb0, a1, a5, a0⟩ hs
  refine c_seq ?_
  refine c_seq ?_
  obtain ⟨s125, E0, hs⟩ := bind_some hs
  refine c_mid (I := fun a f3 => ∃ (σ : Nat → Value), a = fr 100 (ovl σ [(0, (.pointer (some ⟨vg0, 0, none⟩))), (1, (.int .i64 n)), (2, (.int .i64 arity)), (6, (.pointer (some ⟨a3, 0, none⟩))), (7, (.pointer (some ⟨a2, 0, none⟩))), (8, (.int .i64 s113.1)), (29, (.bool s125.1))]) ∧ Chg ([vg0] ++ ([])) w f3 ∧ Own (Nw w ([vg0] ++ ([]))) M f3 (([a2]) ++ (([a7]) ++ (([a3]) ++ (([vg0]) ++ [])))) ∧ (RT.rs (RT.int .u8)).val M f3 (.slice va0x0 vn0x0 vc0x0) b0.1 ([]) ∧ BoxV f3 vg0 53 [(.slice va0x0 vn0x0 vc0x0), (.int .i64 s125.2.1), (.int .u64 s125.2.2)] ∧ BoxV f3 a3 27 [(.int .i64 0), (.slice none 0 0)] ∧ (RT.os 3 (RT.int .i64)).val M f3 (.slice (some ⟨a7, 0, none⟩) 0 0) ([]) ([a7]) ∧ BoxV f3 a2 27 [(.int .i64 arity), (.slice (some ⟨a7, 0, none⟩) 0 0)]) ?_ ?_
  ·replace hs := E0
   refine c_region ?_
   refine pl_val (.int .i64 s113.1) (y_move rfl) ?_
   refine pl_val (.bool (decide (s113.1 < 8))) (y_lss rfl rfl) ?_
   refine pl_val (.bool (decide (s113.1 < 8))) (y_move rfl) ?_
   rcases bif_some hs with ⟨g7, hs⟩ | ⟨g7, hs⟩
   ·skip
    refine pl_yes (.pointer (some ⟨vg0, 0, none⟩)) (tg := 26) (by kernel_rfl) (congrArg Value.bool g7) (y_move rfl) ?_
    have hO := hO.fr3
    have E1 := hO
    have w9 := Own.lend (F := (([vg0]) ++ ([]))) (R := ([a2]) ++ (([a7]) ++ (([a3]) ++ ([])))) (Own.perm (E1) (by simp))
    obtain ⟨r130, E2, hs⟩ := bind_some hs
    refine pl_cally (tg := 26) (by kernel_rfl) (congrArg Value.bool g7) Bd75 rfl (c_spec_l1Cur__one (M := M) 2 (b0.1, s113.2.1, s113.2.2) (show BoxV _ vg0 53 [(.slice va0x0 vn0x0 vc0x0), (.int .i64 s113.2.1), (.int .u64 s113.2.2)] from hb0) hl0x0 w9 w9.fut E2) ?_
    rintro _ E3 ⟨rfl, k6, q6, E4⟩
    have hO := hO.perm (R := (([vg0]) ++ ([])) ++ (([a2]) ++ (([a7]) ++ (([a3]) ++ ([]))))) (by simp)
    have hl0x0 := hl0x0.mt k6 hO same_
    have a1 := a1.ap k6 hO same_ (mem_r (mem_r (mem_l (List.mem_singleton.2 rfl))))
    have a5 := a5.ma k6 hO same_ (fun _ e => (mem_r (mem_l (e))))
    have a0 := a0.ap k6 hO same_ (mem_l (List.mem_singleton.2 rfl))
    have hC := hC.st k6 hO same_
    have hO := Own.join hO k6 E4
    have hO := hO.perm (R := [vg0] ++ (([a2]) ++ (([a7]) ++ (([a3]) ++ ([]))))) (by simp)
    have q6 : BoxV E3 vg0 53 [(.slice va0x0 vn0x0 vc0x0), (.int .i64 r130.2.1), (.int .u64 r130.2.2)] := q6
    refine pl_val (.bool r130.1) (y_pick_t (congrArg Value.bool g7) rfl) ?_
    refine c_nil ?_
    cases hs
    have hO := hO.fr3
    have hO := hO.fr3
    have hO := hO.fr3
    exact ⟨_, fr_ovl 100 ⟨rfl, rfl, rfl, rfl, rfl, rfl, rfl, trivial⟩, hC, hO, hl0x0, q6, a1, a5, a0⟩
   refine pl_not (tg := 26) (by kernel_rfl) (congrArg Value.bool g7) ?_
   refine pl_not (tg := 26) (by kernel_rfl) (congrArg Value.bool g7) ?_
   refine pl_val (.bool false) (y_pick_f (congrArg Value.bool g7) rfl) ?_
   refine c_nil ?_
   cases hs
   have hO := hO.fr3
   have hO := hO.fr3
   have hO := hO.fr3
   have hO := hO.fr3
   exact ⟨_, fr_ovl 100 ⟨rfl, rfl, rfl, rfl, rfl, rfl, rfl, trivial⟩, hC, hO, hl0x0, hb0, a1, a5, a0⟩
  rintro g5 f3 ⟨σ, rfl, hC, hO, hl0x0, hb0, a1, a5, a0⟩
  rcases bif_some hs with ⟨q7, hs⟩ | ⟨q7, hs⟩
  ·refine c_condT (congrArg Value.bool q7) ?_
   refine wp_skip ?_
   refine c_seq ?_
   refine wp_block ?_
   refine c_sr ?_
   refine pl_val (.pointer (some ⟨vg0, 0, none⟩)) (y_move rfl) ?_
   have hO := hO.fr3
   have E5 := hO
   have x0 := Own.lend (F := (([vg0]) ++ ([]))) (R := ([a2]) ++ (([a7]) ++ (([a3]) ++ ([])))) (Own.perm (E5) (by simp))
   obtain ⟨r134, E6, hs⟩ := bind_some hs
   refine pl_call Bd62 rfl (c_spec_l1Cur__pick (M := M) 17 (b0.1, s125.2.1, s125.2.2) (show BoxV _ vg0 53 [(.slice va0x0 vn0x0 vc0x0), (.int .i64 s125.2.1), (.int .u64 s125.2.2)] from hb0) hl0x0 x0 x0.fut E6) ?_
   rintro _ E7 ⟨rfl, k7, c6, E8⟩
   have hO := hO.perm (R := (([vg0]) ++ ([])) ++ (([a2]) ++ (([a7]) ++ (([a3]) ++ ([]))))) (by simp)
   have hl0x0 := hl0x0.mt k7 hO same_
   have a1 := a1.ap k7 hO same_ (mem_r (mem_r (mem_l (List.mem_singleton.2 rfl))))
   have a5 := a5.ma k7 hO same_ (fun _ e => (mem_r (mem_l (e))))
   have a0 := a0.ap k7 hO same_ (mem_l (List.mem_singleton.2 rfl))
   have hC := hC.st k7 hO same_
   have hO := Own.join hO k7 E8
   have hO := hO.perm (R := [vg0] ++ (([a2]) ++ (([a7]) ++ (([a3]) ++ ([]))))) (by simp)
   have c6 : BoxV E7 vg0 53 [(.slice va0x0 vn0x0 vc0x0), (.int .i64 r134.2.1), (.int .u64 r134.2.2)] := c6
   obtain ⟨r136, E9, hs⟩ := bind_some hs
   refine pl_call Bd104 rfl (c_spec_l2Known (M := M) r134.1  hO.fut E9) ?_
   rintro _ F0 ⟨d1, d2, d3, d4, rfl, g8, b3, F1⟩
   have hl0x0 := hl0x0.ext g8
   have c6 := c6.cn g8
   have a1 := a1.cn g8
   have a5 := a5.ext g8
   have a0 := a0.cn g8
   have hC := hC.ext g8
   have hO := Own.join0 hO g8 F1
   have hO := hO.perm (R := d4 ++ (([vg0]) ++ (([a2]) ++ (([a7]) ++ (([a3]) ++ ([])))))) (by simp)
   obtain ⟨F2, c7, F3, x1, f4, x2⟩ := new_block F0 [(.int .i64 0), (.slice none 0 0)] 98
   refine pl_val (w' := F2) (.pointer (some ⟨c7, 0, none⟩)) (y_alloc (by rw [F3, x1]; kernel_rfl)) ?_
   have hl0x0 := hl0x0.ext f4
   have c6 := c6.cn f4
   have a1 := a1.cn f4
   have a5 := a5.ext f4
   have a0 := a0.cn f4
   have b3 := b3.ext f4
   have hC := hC.ext f4
   have hO := hO.new1 f4 x1 x2.lt
   obtain ⟨o3, F4, f5, b7⟩ := box_store (P := Try.prog) x2 [] [(.int .i64 0), (.slice none 0 0)] [] [(.int .i64 r136.1), (.slice d1 d2 d3)] rfl rfl (by intro u hu; simp only [List.mem_cons, List.not_mem_nil, or_false] at hu; rcases hu with rfl | rfl <;> rfl)
   refine pl_skip (w' := o3) (ys_store rfl rfl (F4 _ _ rfl Sz98)) ?_
   have hl0x0 := hl0x0.mt f5 hO same_
   have c6 := c6.ap f5 hO same_ (mem_r (mem_l (List.mem_singleton.2 rfl)))
   have a1 := a1.ap f5 hO same_ (mem_r (mem_r (mem_r (mem_r (mem_l (List.mem_singleton.2 rfl))))))
   have a5 := a5.ma f5 hO same_ (fun _ e => (mem_r (mem_r (mem_r (mem_l (e))))))
   have a0 := a0.ap f5 hO same_ (mem_r (mem_r (mem_l (List.mem_singleton.2 rfl))))
   have b3 := b3.ma f5 hO same_ (fun _ e => (mem_l (e)))
   have hC := hC.st f5 hO same_
   have hO := hO.ext f5
   have b7 : BoxV o3 c7 98 [(.int .i64 r136.1), (.slice d1 d2 d3)] := b7
   refine c_nil ?_
   refine c_seq ?_
   refine c_mid (I := fun a o4 => ∃ (σ : Nat → Value), a = fr 100 (ovl σ [(0, (.pointer (some ⟨vg0, 0, none⟩))), (1, (.int .i64 n)), (2, (.int .i64 arity)), (6, (.pointer (some ⟨a3, 0, none⟩))), (7, (.pointer (some ⟨a2, 0, none⟩))), (8, (.int .i64 s113.1)), (9, (.pointer (some ⟨c7, 0, none⟩))), (44, (.bool ((r136.1 == n) && (decide (0 < (r136.2.length : Int))))))]) ∧ Chg [] o3 o4) ?_ ?_
   ·have hMid := Chg.refl [] o3
    refine c_region ?_
    refine pl_val (.pointer (some ⟨c7, 0, none⟩)) (y_faddr rfl Fa98x0) ?_
    refine pl_val (.int .i64 r136.1) (y_load rfl ((box_load Ag3 Sz3 b7 [] [(.int .i64 r136.1)] [(.slice d1 d2 d3)] rfl rfl (fun _ => rfl)) _ (Chg.refl _ _))) ?_
    refine pl_val (.int .i64 n) (y_move rfl) ?_
    refine pl_val (.bool (r136.1 == n)) (y_eql rfl rfl) ?_
    refine pl_val (.bool (r136.1 == n)) (y_move rfl) ?_
    rcases Bool.eq_false_or_eq_true ((r136.1 == n)) with c9 | c9
    ·skip
     refine pl_yes (.pointer (some ⟨c7, 1, none⟩)) (tg := 39) (by kernel_rfl) (congrArg Value.bool c9) (y_faddr rfl Fa98x1) ?_
     refine pl_yes (.slice d1 d2 d3) (tg := 39) (by kernel_rfl) (congrArg Value.bool c9) (y_load rfl ((box_load Ag96 Sz96 b7 [(.int .i64 r136.1)] [(.slice d1 d2 d3)] [] rfl rfl (fun _ => rfl)) _ (Chg.refl _ _))) ?_
     refine pl_yes (.int .i64 (r136.2.length : Int)) (tg := 39) (by kernel_rfl) (congrArg Value.bool c9) (y_len' Sl96 (os_len b3) rfl) ?_
     refine pl_yes (.bool (decide (0 < (r136.2.length : Int)))) (tg := 39) (by kernel_rfl) (congrArg Value.bool c9) (y_gtr rfl rfl) ?_
     refine pl_val (.bool ((r136.1 == n) && (decide (0 < (r136.2.length : Int))))) (y_pick_t (congrArg Value.bool c9) (congrArg Value.bool (by rw [c9]; rfl))) ?_
     refine c_nil ?_
     exact ⟨_, fr_ovl 100 ⟨rfl, rfl, rfl, rfl, rfl, rfl, rfl, rfl, trivial⟩, hMid⟩
    refine pl_not (tg := 39) (by kernel_rfl) (congrArg Value.bool c9) ?_
    refine pl_not (tg := 39) (by kernel_rfl) (congrArg Value.bool c9) ?_
    refine pl_not (tg := 39) (by kernel_rfl) (congrArg Value.bool c9) ?_
    refine pl_not (tg := 39) (by kernel_rfl) (congrArg Value.bool c9) ?_
    refine pl_val (.bool ((r136.1 == n) && (decide (0 < (r136.2.length : Int))))) (y_pick_f (congrArg Value.bool c9) (congrArg Value.bool (by rw [c9]; rfl))) ?_
    refine c_nil ?_
    exact ⟨_, fr_ovl 100 ⟨rfl, rfl, rfl, rfl, rfl, rfl, rfl, rfl, trivial⟩, hMid⟩
   rintro g5 o4 ⟨σ, rfl, e1⟩
   have hl0x0 := hl0x0.ext e1
   have c6 := c6.cn e1
   have a1 := a1.cn e1
   have a5 := a5.ext e1
   have a0 := a0.cn e1
   have b3 := b3.ext e1
   have b7 := b7.cn e1
   have hC := hC.ext e1
   have hO := hO.ext e1
   rcases bif_some hs with ⟨q8, hs⟩ | ⟨q8, hs⟩
   ·refine c_condT (congrArg Value.bool q8) ?_
    refine c_seq ?_
    refine x_start [6, 10] Mx rfl ?_
    have d7 := Chg.drew o4
    generalize World.drew o4 = F5 at d7 ⊢
    have hl0x0 := hl0x0.ext d7
    have c6 := c6.cn d7
    have a1 := a1.cn d7
    have a5 := a5.ext d7
    have a0 := a0.cn d7
    have b3 := b3.ext d7
    have b7 := b7.cn d7
    have hC := hC.ext d7
    have hO := hO.ext d7
    have hS := Chg.refl [] F5
    refine x_p 0 (.pointer (some ⟨c7, 1, none⟩)) rfl (by kernel_rfl)  (fun _ => y_faddr rfl Fa98x1) (fun _ => hS) ?_
    refine x_p 2 (.pointer (some ⟨vg0, 0, none⟩)) rfl (by kernel_rfl)  (fun _ => y_move rfl) (fun _ => hS) ?_
    refine x_p 3 (.pointer (some ⟨c7, 1, none⟩)) rfl (by kernel_rfl)  (fun _ => y_faddr rfl Fa98x1) (fun _ => hS) ?_
    refine x_l 4 (.slice d1 d2 d3) rfl (by kernel_rfl)  (fun w' hw' => y_load rfl ((box_load Ag96 Sz96 b7 [(.int .i64 r136.1)] [(.slice d1 d2 d3)] [] rfl rfl (fun _ => rfl)) w' hw')) hS ?_
    refine x_p 5 (.int .i64 (r136.2.length : Int)) rfl (by kernel_rfl)  (fun _ => y_len' Sl96 (os_len b3) rfl) (fun _ => hS) ?_
    refine x_two (i := 1) (j := 6) (by kernel_rfl) ?_ ?_
    ·skip
     refine xk_val (b := false) (.slice d1 d2 d3) rfl  (y_load rfl ((box_load Ag96 Sz96 b7 [(.int .i64 r136.1)] [(.slice d1 d2 d3)] [] rfl rfl (fun _ => rfl)) _ (Chg.refl _ _))) rfl (fun _ => hS) ?_
     refine x_one (i := 6) (by kernel_rfl) ?_
     have hO := hO.fr2
     have F6 := hO
     have x3 := Own.lend (F := (([vg0]) ++ ([]))) (R := ([c7]) ++ (d4 ++ (([a2]) ++ (([a7]) ++ (([a3]) ++ ([])))))) (Own.perm (F6) (by simp))
     obtain ⟨r147, q9, hs⟩ := bind_some hs
     refine xk_call (b := true) rfl  Bd62 rfl (c_spec_l1Cur__pick (M := M) (r136.2.length : Int) (b0.1, r134.2.1, r134.2.2) (show BoxV _ vg0 53 [(.slice va0x0 vn0x0 vc0x0), (.int .i64 r134.2.1), (.int .u64 r134.2.2)] from c6) hl0x0 x3 x3.fut q9) rfl (fun h => nomatch h) ?_
     rintro _ F7 ⟨rfl, f6, g9, F8⟩
     have hO := hO.perm (R := (([vg0]) ++ ([])) ++ (([c7]) ++ (d4 ++ (([a2]) ++ (([a7]) ++ (([a3]) ++ ([]))))))) (by simp)
     have hl0x0 := hl0x0.mt f6 hO same_
     have a1 := a1.ap f6 hO same_ (mem_r (mem_r (mem_r (mem_r (mem_l (List.mem_singleton.2 rfl))))))
     have a5 := a5.ma f6 hO same_ (fun _ e => (mem_r (mem_r (mem_r (mem_l (e))))))
     have a0 := a0.ap f6 hO same_ (mem_r (mem_r (mem_l (List.mem_singleton.2 rfl))))
     have b3 := b3.ma f6 hO same_ (fun _ e => (mem_r (mem_l (e))))
     have b7 := b7.ap f6 hO same_ (mem_l (List.mem_singleton.2 rfl))
     have hC := hC.st f6 hO same_
     have hO := Own.join hO f6 F8
     have hO := hO.perm (R := [vg0] ++ (([c7]) ++ (d4 ++ (([a2]) ++ (([a7]) ++ (([a3]) ++ ([]))))))) (by simp)
     have g9 : BoxV F7 vg0 53 [(.slice va0x0 vn0x0 vc0x0), (.int .i64 r147.2.1), (.int .u64 r147.2.2)] := g9
     obtain ⟨x148, r0, hs⟩ := bind_some hs
     obtain ⟨F9, R8, R9, S0, G0, G1, G2⟩ := os_idx Sl96 Sz27 b3 r0
     have G3 := own_row (Frz.pr Frz.int (Frz.os Frz.int)) G1 G2
     refine x_p 7 (.pointer (some ⟨F9, 0 + Int.toNat r147.1 * 2, none⟩)) rfl (by kernel_rfl)  (fun _ => G0 _ _ _ _ _ _ _ _ _ rfl rfl) (fun h => nomatch h) ?_
     refine x_one (i := 8) (by kernel_rfl) ?_
     obtain ⟨S1, G4, hrow150, G5⟩ := at_load2 Ag27 Sz27 rfl G3
     obtain ⟨S2, S3, rfl, G6, G7⟩ := pr_open G5
     obtain rfl := int_rel G6
     obtain ⟨G8, G9, H0, rfl, m1⟩ := rs_rel G7
     refine xk_val (b := true) (.agg #[(.int .i64 x148.1), (.slice G8 G9 H0)]) rfl  (y_load rfl (G4 _ (Chg.refl _ _))) rfl (fun h => nomatch h) ?_
     refine x_one (i := 9) (by kernel_rfl) ?_
     have hO := hO.fr2
     obtain ⟨r153, r1, hs⟩ := bind_some hs
     refine xk_call (b := true) rfl  Bd105 rfl (c_spec_l2Copy (M := (Less M d4)) (x148.1, x148.2) m1 hO.less.fut r1) rfl (fun h => nomatch h) ?_
     rintro _ S4 ⟨r2, r3, r4, x4, rfl, d5, m2, H1⟩
     have hl0x0 := hl0x0.ext d5
     have g9 := g9.cn d5
     have a1 := a1.cn d5
     have a5 := a5.ext d5
     have a0 := a0.cn d5
     have b3 := b3.ext d5
     have b7 := b7.cn d5
     have m1 := m1.ext d5
     have hrow150 := hrow150.cn d5
     have hC := hC.ext d5
     have hO := Own.join0 hO d5 H1
     have hO := hO.perm (R := x4 ++ (d4 ++ (([vg0]) ++ (([c7]) ++ (([a2]) ++ (([a7]) ++ (([a3]) ++ ([])))))))) (by simp)
     have m2 := m2.free (M' := M) (Free.os Free.int)
     refine x_one (i := 10) (by kernel_rfl) ?_
     obtain ⟨x5, H2, d8, r5⟩ := box_store (P := Try.prog) a1 [] [(.int .i64 0), (.slice none 0 0)] [] [(.int .i64 r153.1), (.slice r2 r3 r4)] rfl rfl (by intro u hu; simp only [List.mem_cons, List.not_mem_nil, or_false] at hu; rcases hu with rfl | rfl <;> rfl)
     refine xk_skip (w' := x5) (b := true) rfl (ys_store rfl rfl (H2 _ _ rfl Sz27)) rfl (fun h => nomatch h) ?_
     have hO := hO.fr6
     have hl0x0 := hl0x0.mt d8 hO same_
     have g9 := g9.ap d8 hO same_ (mem_r (mem_r (mem_l (List.mem_singleton.2 rfl))))
     have a5 := a5.ma d8 hO same_ (fun _ e => (mem_r (mem_r (mem_r (mem_r (mem_r (mem_l (e))))))))
     have a0 := a0.ap d8 hO same_ (mem_r (mem_r (mem_r (mem_r (mem_l (List.mem_singleton.2 rfl))))))
     have b3 := b3.ma d8 hO same_ (fun _ e => (mem_r (mem_l (e))))
     have b7 := b7.ap d8 hO same_ (mem_r (mem_r (mem_r (mem_l (List.mem_singleton.2 rfl)))))
     have m1 := m1.mut d8 (fun g hg => ⟨hO.inM g ((fun _ h => h) g hg), fun e => hO.apart g ((fun _ h => h) g hg) (mem_r (mem_l (e)))⟩) (fun _ _ h => nomatch h)
     have m2 := m2.ma d8 hO same_ (fun _ e => (mem_l (e)))
     have hC := hC.st d8 hO same_
     have hO := hO.ext d8
     have r5 : BoxV x5 a3 27 [(.int .i64 r153.1), (.slice r2 r3 r4)] := r5
     refine x_end (by kernel_rfl) ?_
     clear hS
     refine wp_ret ?_
     cases hs
     have hO := hO.drop
     have hO := hO.fr1
     have hO := hO.drop
     have hO := hO.fr2
     have hO := hO.drop
     have hO := hO.fr2
     have hO := hO.drop
     have hO := hO.fr2
     have hO := hO.drop
     have hO := hO.fr1
     have hO := hO.fr1
     exact ⟨_, a3, r2, r3, r4, x4, fr_ovl 100 ⟨rfl, trivial⟩, r5, hC, m2, g9, hO.top⟩
    ·skip
     have hO := hO.fr2
     have H3 := hO
     have x6 := Own.lend (F := (([vg0]) ++ ([]))) (R := ([c7]) ++ (d4 ++ (([a2]) ++ (([a7]) ++ (([a3]) ++ ([])))))) (Own.perm (H3) (by simp))
     obtain ⟨r147, q9, hs⟩ := bind_some hs
     refine xk_call (b := true) rfl  Bd62 rfl (c_spec_l1Cur__pick (M := M) (r136.2.length : Int) (b0.1, r134.2.1, r134.2.2) (show BoxV _ vg0 53 [(.slice va0x0 vn0x0 vc0x0), (.int .i64 r134.2.1), (.int .u64 r134.2.2)] from c6) hl0x0 x6 x6.fut q9) rfl (fun h => nomatch h) ?_
     rintro _ H4 ⟨rfl, f7, h0, H5⟩
     have hO := hO.perm (R := (([vg0]) ++ ([])) ++ (([c7]) ++ (d4 ++ (([a2]) ++ (([a7]) ++ (([a3]) ++ ([]))))))) (by simp)
     have hl0x0 := hl0x0.mt f7 hO same_
     have a1 := a1.ap f7 hO same_ (mem_r (mem_r (mem_r (mem_r (mem_l (List.mem_singleton.2 rfl))))))
     have a5 := a5.ma f7 hO same_ (fun _ e => (mem_r (mem_r (mem_r (mem_l (e))))))
     have a0 := a0.ap f7 hO same_ (mem_r (mem_r (mem_l (List.mem_singleton.2 rfl))))
     have b3 := b3.ma f7 hO same_ (fun _ e => (mem_r (mem_l (e))))
     have b7 := b7.ap f7 hO same_ (mem_l (List.mem_singleton.2 rfl))
     have hC := hC.st f7 hO same_
     have hO := Own.join hO f7 H5
     have hO := hO.perm (R := [vg0] ++ (([c7]) ++ (d4 ++ (([a2]) ++ (([a7]) ++ (([a3]) ++ ([]))))))) (by simp)
     have h0 : BoxV H4 vg0 53 [(.slice va0x0 vn0x0 vc0x0), (.int .i64 r147.2.1), (.int .u64 r147.2.2)] := h0
     refine x_one (i := 1) (by kernel_rfl) ?_
     refine xk_val (b := true) (.slice d1 d2 d3) rfl  (y_load rfl ((box_load Ag96 Sz96 b7 [(.int .i64 r136.1)] [(.slice d1 d2 d3)] [] rfl rfl (fun _ => rfl)) _ (Chg.refl _ _))) rfl (fun h => nomatch h) ?_
     obtain ⟨x148, r0, hs⟩ := bind_some hs
     obtain ⟨H6, S5, S6, S7, H7, H8, H9⟩ := os_idx Sl96 Sz27 b3 r0
     have I0 := own_row (Frz.pr Frz.int (Frz.os Frz.int)) H8 H9
     refine x_p 7 (.pointer (some ⟨H6, 0 + Int.toNat r147.1 * 2, none⟩)) rfl (by kernel_rfl)  (fun _ => H7 _ _ _ _ _ _ _ _ _ rfl rfl) (fun h => nomatch h) ?_
     refine x_one (i := 8) (by kernel_rfl) ?_
     obtain ⟨S8, I1, hrow160, I2⟩ := at_load2 Ag27 Sz27 rfl I0
     obtain ⟨S9, T0, rfl, I3, I4⟩ := pr_open I2
     obtain rfl := int_rel I3
     obtain ⟨I5, I6, I7, rfl, m3⟩ := rs_rel I4
     refine xk_val (b := true) (.agg #[(.int .i64 x148.1), (.slice I5 I6 I7)]) rfl  (y_load rfl (I1 _ (Chg.refl _ _))) rfl (fun h => nomatch h) ?_
     refine x_one (i := 9) (by kernel_rfl) ?_
     have hO := hO.fr2
     obtain ⟨r153, r1, hs⟩ := bind_some hs
     refine xk_call (b := true) rfl  Bd105 rfl (c_spec_l2Copy (M := (Less M d4)) (x148.1, x148.2) m3 hO.less.fut r1) rfl (fun h => nomatch h) ?_
     rintro _ T1 ⟨r6, r7, r8, x7, rfl, d6, m4, I8⟩
     have hl0x0 := hl0x0.ext d6
     have h0 := h0.cn d6
     have a1 := a1.cn d6
     have a5 := a5.ext d6
     have a0 := a0.cn d6
     have b3 := b3.ext d6
     have b7 := b7.cn d6
     have m3 := m3.ext d6
     have hrow160 := hrow160.cn d6
     have hC := hC.ext d6
     have hO := Own.join0 hO d6 I8
     have hO := hO.perm (R := x7 ++ (d4 ++ (([vg0]) ++ (([c7]) ++ (([a2]) ++ (([a7]) ++ (([a3]) ++ ([])))))))) (by simp)
     have m4 := m4.free (M' := M) (Free.os Free.int)
     refine x_one (i := 10) (by kernel_rfl) ?_
     obtain ⟨x8, I9, d9, r9⟩ := box_store (P := Try.prog) a1 [] [(.int .i64 0), (.slice none 0 0)] [] [(.int .i64 r153.1), (.slice r6 r7 r8)] rfl rfl (by intro u hu; simp only [List.mem_cons, List.not_mem_nil, or_false] at hu; rcases hu with rfl | rfl <;> rfl)
     refine xk_skip (w' := x8) (b := true) rfl (ys_store rfl rfl (I9 _ _ rfl Sz27)) rfl (fun h => nomatch h) ?_
     have hO := hO.fr6
     have hl0x0 := hl0x0.mt d9 hO same_
     have h0 := h0.ap d9 hO same_ (mem_r (mem_r (mem_l (List.mem_singleton.2 rfl))))
     have a5 := a5.ma d9 hO same_ (fun _ e => (mem_r (mem_r (mem_r (mem_r (mem_r (mem_l (e))))))))
     have a0 := a0.ap d9 hO same_ (mem_r (mem_r (mem_r (mem_r (mem_l (List.mem_singleton.2 rfl))))))
     have b3 := b3.ma d9 hO same_ (fun _ e => (mem_r (mem_l (e))))
     have b7 := b7.ap d9 hO same_ (mem_r (mem_r (mem_r (mem_l (List.mem_singleton.2 rfl)))))
     have m3 := m3.mut d9 (fun g hg => ⟨hO.inM g ((fun _ h => h) g hg), fun e => hO.apart g ((fun _ h => h) g hg) (mem_r (mem_l (e)))⟩) (fun _ _ h => nomatch h)
     have m4 := m4.ma d9 hO same_ (fun _ e => (mem_l (e)))
     have hC := hC.st d9 hO same_
     have hO := hO.ext d9
     have r9 : BoxV x8 a3 27 [(.int .i64 r153.1), (.slice r6 r7 r8)] := r9
     refine x_end (by kernel_rfl) ?_
     clear hS
     refine wp_ret ?_
     cases hs
     have hO := hO.drop
     have hO := hO.fr1
     have hO := hO.drop
     have hO := hO.fr2
     have hO := hO.drop
     have hO := hO.fr2
     have hO := hO.drop
     have hO := hO.fr2
     have hO := hO.drop
     have hO := hO.fr1
     have hO := hO.fr1
     exact ⟨_, a3, r6, r7, r8, x7, fr_ovl 100 ⟨rfl, trivial⟩, r9, hC, m4, h0, hO.top⟩
   refine c_condF (congrArg Value.bool q8) ?_
   refine wp_skip ?_
   refine c_region ?_
   refine pl_val (.int .i64 s113.1) (y_move rfl) ?_
   refine pl_val (.int .i64 (w64 (s113.1 + 1))) (y_add rfl rfl) ?_
   refine pl_val (.int .i64 (w64 (s113.1 + 1))) (y_assign rfl) ?_
   refine c_nil ?_
   cases hs
   have hO := hO.drop
   have hO := hO.drop
   have hO := hO.fr3
   have hO := hO.fr3
   have hO := hO.fr3
   exact ⟨_, fr_ovl 100 ⟨rfl, rfl, rfl, rfl, rfl, rfl, trivial⟩, hC, hO, hl0x0, c6, a1, a5, a0⟩
  refine c_condF (congrArg Value.bool q7) ?_
  refine wp_exit ?_
  cases hs
  have hO := hO.fr3
  have hO := hO.fr3
  have hO := hO.fr3
  have hO := hO.fr3
  exact ⟨rfl, _, fr_ovl 100 ⟨rfl, rfl, rfl, rfl, rfl, trivial⟩, hC, hO, hl0x0, hb0, a1, a5, a0⟩
 ·skip
  have hO := hO.fr3
  have hO := hO.fr3
  have hO := hO.fr3
  have hO := hO.fr3
  exact ⟨_, fr_ovl 100 ⟨rfl, rfl, rfl, rfl, rfl, rfl, trivial⟩, hC, hO, hl0x0, hb0, a1, a5, a0⟩
 cases o117 with
 | nx _ => exact True.intro
 | rt r_ =>
  have hs := after_rt hs
  intro g5 v9 hK
  cases hs
  exact hK
 | br s113 =>
  have hs := after_br hs
  rintro g5 c1 ⟨σ, rfl, hC, hO, hl0x0, hb0, a1, a5, a0⟩
  refine c_seq ?_
  refine c_sr ?_
  refine pl_val (.int .i64 0) (y_assign rfl) ?_
  refine c_nil ?_
  obtain ⟨o304, J0, hs⟩ := bind_some hs
  refine wp_block ?_
  refine wp_iter (id := 2) (I := fun s300 a c2 => ∃ (σ : Nat → Value) (b4 : Option Addr) (b5 : Nat) (b6 : Nat) (b8 : List Nat), a = fr 100 (ovl σ [(0, (.pointer (some ⟨vg0, 0, none⟩))), (1, (.int .i64 n)), (2, (.int .i64 arity)), (6, (.pointer (some ⟨a3, 0, none⟩))), (7, (.pointer (some ⟨a2, 0, none⟩))), (10, (.int .i64 s300.1))]) ∧ Chg ([vg0] ++ ([])) w c2 ∧ Own (Nw w ([vg0] ++ ([]))) M c2 (b8 ++ (([a2]) ++ (([a3]) ++ (([vg0]) ++ [])))) ∧ (RT.rs (RT.int .u8)).val M c2 (.slice va0x0 vn0x0 vc0x0) b0.1 ([]) ∧ BoxV c2 vg0 53 [(.slice va0x0 vn0x0 vc0x0), (.int .i64 s300.2.1), (.int .u64 s300.2.2.1)] ∧ BoxV c2 a3 27 [(.int .i64 0), (.slice none 0 0)] ∧ BoxV c2 a2 27 [(.int .i64 arity), (.slice b4 b5 b6)] ∧ (RT.os 3 (RT.int .i64)).val M c2 (.slice b4 b5 b6) s300.2.2.2 b8) (J := fun s300 a c2 => ∃ (σ : Nat → Value) (a8 : Option Addr) (a9 : Nat) (b1 : Nat) (b9 : List Nat), a = fr 100 (ovl σ [(0, (.pointer (some ⟨vg0, 0, none⟩))), (1, (.int .i64 n)), (6, (.pointer (some ⟨a3, 0, none⟩))), (7, (.pointer (some ⟨a2, 0, none⟩)))]) ∧ Chg ([vg0] ++ ([])) w c2 ∧ Own (Nw w ([vg0] ++ ([]))) M c2 (b9 ++ (([a2]) ++ (([a3]) ++ (([vg0]) ++ [])))) ∧ (RT.rs (RT.int .u8)).val M c2 (.slice va0x0 vn0x0 vc0x0) b0.1 ([]) ∧ BoxV c2 vg0 53 [(.slice va0x0 vn0x0 vc0x0), (.int .i64 s300.2.1), (.int .u64 s300.2.2.1)] ∧ BoxV c2 a3 27 [(.int .i64 0), (.slice none 0 0)] ∧ BoxV c2 a2 27 [(.int .i64 arity), (.slice a8 a9 b1)] ∧ (RT.os 3 (RT.int .i64)).val M c2 (.slice a8 a9 b1) s300.2.2.2 b9) (K := (k_spec_l1Cur__op13 M w vg0 va0x0 vn0x0 vc0x0 n arity b0)) ?_ FU (0, s113.2.1, s113.2.2, []) o304 _ _ ?_ J0 ?_
  ·rintro s300 o304 a c2 ⟨σ, b4, b5, b6, b8, rfl, hC, hO, hl0x0, hb0, a1, a0, a6⟩ hs
   refine c_seq ?_
   refine c_sr ?_
   refine pl_val (.int .i64 s300.1) (y_move rfl) ?_
   refine pl_val (.int .i64 n) (y_move rfl) ?_
   refine pl_val (.int .i64 arity) (y_move rfl) ?_
   obtain ⟨r311, J1, hs⟩ := bind_some hs
   refine pl_call Bd93 rfl (c_spec_l2Pow (M := M) n arity  hO.fut J1) ?_
   rintro _ T2 ⟨rfl, h1⟩
   have hl0x0 := hl0x0.ext h1
   have hb0 := hb0.cn h1
   have a1 := a1.cn h1
   have a0 := a0.cn h1
   have a6 := a6.ext h1
   have hC := hC.ext h1
   have hO := hO.ext h1
   refine pl_val (.bool (decide (s300.1 < r311))) (y_lss rfl rfl) ?_
   refine c_nil ?_
   rcases bif_some hs with ⟨s0, hs⟩ | ⟨s0, hs⟩
   ·refine c_condT (congrArg Value.bool s0) ?_
    refine wp_skip ?_
    refine c_seq ?_
    refine wp_block ?_
    refine c_sr ?_
    refine pl_val (.int .i64 n) (y_move rfl) ?_
    refine pl_val (.int .i64 arity) (y_move rfl) ?_
    refine pl_val (.int .i64 s300.1) (y_move rfl) ?_
    obtain ⟨r314, J2, hs⟩ := bind_some hs
    refine pl_call Bd65 rfl (c_spec_l2Args (M := M) n arity s300.1  hO.fut J2) ?_
    rintro _ T3 ⟨m5, m6, m7, c0, rfl, h2, a4, J3⟩
    have hl0x0 := hl0x0.ext h2
    have hb0 := hb0.cn h2
    have a1 := a1.cn h2
    have a0 := a0.cn h2
    have a6 := a6.ext h2
    have hC := hC.ext h2
    have hO := Own.join0 hO h2 J3
    have hO := hO.perm (R := c0 ++ (b8 ++ (([a2]) ++ (([a3]) ++ (([vg0]) ++ ([])))))) (by simp)
    refine pl_val (.slice m5 m6 m7) (y_assign rfl) ?_
    refine c_nil ?_
    refine c_seq ?_
    obtain ⟨s322, J4, hs⟩ := bind_some hs
    refine c_mid (I := fun a d0 => ∃ (σ : Nat → Value), a = fr 100 (ovl σ [(0, (.pointer (some ⟨vg0, 0, none⟩))), (1, (.int .i64 n)), (2, (.int .i64 arity)), (6, (.pointer (some ⟨a3, 0, none⟩))), (7, (.pointer (some ⟨a2, 0, none⟩))), (10, (.int .i64 s300.1)), (11, (.slice m5 m6 m7)), (73, (.bool s322.1))]) ∧ Chg ([vg0] ++ ([])) w d0 ∧ Own (Nw w ([vg0] ++ ([]))) M d0 (c0 ++ (b8 ++ (([a2]) ++ (([a3]) ++ (([vg0]) ++ []))))) ∧ (RT.rs (RT.int .u8)).val M d0 (.slice va0x0 vn0x0 vc0x0) b0.1 ([]) ∧ BoxV d0 vg0 53 [(.slice va0x0 vn0x0 vc0x0), (.int .i64 s322.2.1), (.int .u64 s322.2.2)] ∧ BoxV d0 a3 27 [(.int .i64 0), (.slice none 0 0)] ∧ BoxV d0 a2 27 [(.int .i64 arity), (.slice b4 b5 b6)] ∧ (RT.os 3 (RT.int .i64)).val M d0 (.slice b4 b5 b6) s300.2.2.2 b8 ∧ (RT.os 3 (RT.int .i64)).val M d0 (.slice m5 m6 m7) r314 c0) ?_ ?_
    ·replace hs := J4
     refine c_region ?_
     refine pl_val (.slice m5 m6 m7) (y_move rfl) ?_
     refine pl_val (.int .i64 (r314.length : Int)) (y_len' Sl25 (os_len a4) rfl) ?_
     refine pl_val (.bool (decide (0 < (r314.length : Int)))) (y_gtr rfl rfl) ?_
     refine pl_val (.bool (decide (0 < (r314.length : Int)))) (y_move rfl) ?_
     rcases bif_some hs with ⟨e2, hs⟩ | ⟨e2, hs⟩
     ·skip
      refine pl_yes (.pointer (some ⟨vg0, 0, none⟩)) (tg := 69) (by kernel_rfl) (congrArg Value.bool e2) (y_move rfl) ?_
      have hO := hO.fr4
      have J5 := hO
      have x9 := Own.lend (F := (([vg0]) ++ ([]))) (R := c0 ++ (b8 ++ (([a2]) ++ (([a3]) ++ ([]))))) (Own.perm (J5) (by simp))
      obtain ⟨r327, J6, hs⟩ := bind_some hs
      refine pl_cally (tg := 69) (by kernel_rfl) (congrArg Value.bool e2) Bd75 rfl (c_spec_l1Cur__one (M := M) 3 (b0.1, s300.2.1, s300.2.2.1) (show BoxV _ vg0 53 [(.slice va0x0 vn0x0 vc0x0), (.int .i64 s300.2.1), (.int .u64 s300.2.2.1)] from hb0) hl0x0 x9 x9.fut J6) ?_
      rintro _ J7 ⟨rfl, h3, s1, J8⟩
      have hO := hO.perm (R := (([vg0]) ++ ([])) ++ (c0 ++ (b8 ++ (([a2]) ++ (([a3]) ++ ([])))))) (by simp)
      have hl0x0 := hl0x0.mt h3 hO same_
      have a1 := a1.ap h3 hO same_ (mem_r (mem_r (mem_r (mem_l (List.mem_singleton.2 rfl)))))
      have a0 := a0.ap h3 hO same_ (mem_r (mem_r (mem_l (List.mem_singleton.2 rfl))))
      have a6 := a6.ma h3 hO same_ (fun _ e => (mem_r (mem_l (e))))
      have a4 := a4.ma h3 hO same_ (fun _ e => (mem_l (e)))
      have hC := hC.st h3 hO same_
      have hO := Own.join hO h3 J8
      have hO := hO.perm (R := [vg0] ++ (c0 ++ (b8 ++ (([a2]) ++ (([a3]) ++ ([])))))) (by simp)
      have s1 : BoxV J7 vg0 53 [(.slice va0x0 vn0x0 vc0x0), (.int .i64 r327.2.1), (.int .u64 r327.2.2)] := s1
      refine pl_yes (.bool (!r327.1)) (tg := 69) (by kernel_rfl) (congrArg Value.bool e2) (y_not rfl) ?_
      refine pl_val (.bool (!r327.1)) (y_pick_t (congrArg Value.bool e2) rfl) ?_
      refine c_nil ?_
      cases hs
      have hO := hO.fr4
      have hO := hO.fr4
      have hO := hO.fr4
      have hO := hO.fr4
      exact ⟨_, fr_ovl 100 ⟨rfl, rfl, rfl, rfl, rfl, rfl, rfl, rfl, trivial⟩, hC, hO, hl0x0, s1, a1, a0, a6, a4⟩
     refine pl_not (tg := 69) (by kernel_rfl) (congrArg Value.bool e2) ?_
     refine pl_not (tg := 69) (by kernel_rfl) (congrArg Value.bool e2) ?_
     refine pl_not (tg := 69) (by kernel_rfl) (congrArg Value.bool e2) ?_
     refine pl_val (.bool false) (y_pick_f (congrArg Value.bool e2) rfl) ?_
     refine c_nil ?_
     cases hs
     have hO := hO.fr4
     have hO := hO.fr4
     have hO := hO.fr4
     have hO := hO.fr4
     have hO := hO.fr4
     exact ⟨_, fr_ovl 100 ⟨rfl, rfl, rfl, rfl, rfl, rfl, rfl, rfl, trivial⟩, hC, hO, hl0x0, hb0, a1, a0, a6, a4⟩
    rintro g5 d0 ⟨σ, rfl, hC, hO, hl0x0, hb0, a1, a0, a6, a4⟩
    rcases bif_some hs with ⟨s2, hs⟩ | ⟨s2, hs⟩
    ·refine c_condT (congrArg Value.bool s2) ?_
     refine x_start [4, 6, 8] Mx rfl ?_
     have e3 := Chg.drew d0
     generalize World.drew d0 = J9 at e3 ⊢
     have hl0x0 := hl0x0.ext e3
     have hb0 := hb0.cn e3
     have a1 := a1.cn e3
     have a0 := a0.cn e3
     have a6 := a6.ext e3
     have a4 := a4.ext e3
     have hC := hC.ext e3
     have hO := hO.ext e3
     have hS := Chg.refl [] J9
     refine x_p 0 (.pointer (some ⟨a2, 1, none⟩)) rfl (by kernel_rfl)  (fun _ => y_faddr rfl Fa27x1) (fun _ => hS) ?_
     refine x_p 2 (.pointer (some ⟨vg0, 0, none⟩)) rfl (by kernel_rfl)  (fun _ => y_move rfl) (fun _ => hS) ?_
     refine x_p 3 (.slice m5 m6 m7) rfl (by kernel_rfl)  (fun _ => y_move rfl) (fun _ => hS) ?_
     refine x_two (i := 1) (j := 4) (by kernel_rfl) ?_ ?_
     ·skip
      refine xk_val (b := false) (.slice b4 b5 b6) rfl  (y_load rfl ((box_load Ag25 Sz25 a0 [(.int .i64 arity)] [(.slice b4 b5 b6)] [] rfl rfl (fun _ => rfl)) _ (Chg.refl _ _))) rfl (fun _ => hS) ?_
      refine x_one (i := 4) (by kernel_rfl) ?_
      have hO := hO.fr4
      have s3 := hO
      have s3 := s3.fr1
      have y0 := Own.lend (F := (([vg0]) ++ ([]))) (R := b8 ++ (([a2]) ++ (([a3]) ++ ([])))) (Own.perm (s3.less) (by simp))
      obtain ⟨r332, s4, hs⟩ := bind_some hs
      refine xk_call (b := true) rfl  Bd61 rfl (c_spec_l1Cur__among (M := (Less M c0)) r314 (b0.1, s322.2.1, s322.2.2) (((Frz.os Frz.int)).val a4 Less.sub Less.not) (show BoxV _ vg0 53 [(.slice va0x0 vn0x0 vc0x0), (.int .i64 s322.2.1), (.int .u64 s322.2.2)] from hb0) (hl0x0.sub Less.sub) y0 y0.fut s4) rfl (fun h => nomatch h) ?_
      rintro _ y1 ⟨rfl, h4, e4, K0⟩
      have hO := hO.fr1
      have hO := hO.fr1
      have hO := hO.perm (R := (([vg0]) ++ ([])) ++ (c0 ++ (b8 ++ (([a2]) ++ (([a3]) ++ ([])))))) (by simp)
      have hl0x0 := hl0x0.mt h4 hO same_
      have a1 := a1.ap h4 hO same_ (mem_r (mem_r (mem_r (mem_l (List.mem_singleton.2 rfl)))))
      have a0 := a0.ap h4 hO same_ (mem_r (mem_r (mem_l (List.mem_singleton.2 rfl))))
      have a6 := a6.ma h4 hO same_ (fun _ e => (mem_r (mem_l (e))))
      have a4 := a4.ma h4 hO same_ (fun _ e => (mem_l (e)))
      have hC := hC.st h4 hO same_
      have hO := Own.join hO h4 K0
      have hO := hO.perm (R := [vg0] ++ (c0 ++ (b8 ++ (([a2]) ++ (([a3]) ++ ([])))))) (by simp)
      have e4 : BoxV y1 vg0 53 [(.slice va0x0 vn0x0 vc0x0), (.int .i64 r332.2.1), (.int .u64 r332.2.2)] := e4
      refine x_one (i := 5) (by kernel_rfl) ?_
      obtain ⟨y2, s5, K1, y3, f8, y4⟩ := new_block y1 [(.int .i64 r332.1)] 3
      refine xk_val (w' := y2) (b := true) (.slice (some ⟨s5, 0, none⟩) 1 1) rfl  (y_bslice rfl (by rw [K1, y3]; kernel_rfl)) rfl (fun h => nomatch h) ?_
      have hl0x0 := hl0x0.ext f8
      have e4 := e4.cn f8
      have a1 := a1.cn f8
      have a0 := a0.cn f8
      have a6 := a6.ext f8
      have a4 := a4.ext f8
      have hC := hC.ext f8
      have hO := hO.new1 f8 y3 y4.lt
      have s6 := os_of_box (r := (RT.int .i64)) (M := M) (css := [[(.int .i64 r332.1)]]) (fps := [([] : List Nat)]) (xs := ([r332.1] : List Int)) y4 ⟨⟨rfl, rfl⟩, trivial⟩ (Nat.le_of_ble_eq_true rfl) (List.nodup_cons.2 ⟨(fun h => nomatch h), List.nodup_nil⟩)
      have s6 : (RT.os 3 (RT.int .i64)).val M y2 (.slice (some ⟨s5, 0, none⟩) 1 1) [r332.1] [s5] := s6
      refine x_one (i := 6) (by kernel_rfl) ?_
      obtain ⟨y336, m8, hs⟩ := bind_some hs
      have hO := hO.fr3
      obtain ⟨o5, o6, o7, K2, K3, K4, h5, K5, m9⟩ := app_os Rw25 m8 a6 s6 hO.inM (fun g hg hq => hO.apart g hq (mem_l hg))
      have k8 := os_block a6
      refine xk_val (w' := K2) (b := true) (.slice o5 o6 o7) rfl  (y_append rfl rfl (K4 _)) rfl (fun h => nomatch h) ?_
      have hO := hO.fr1
      have hO := hO.fr1
      have hl0x0 := hl0x0.mt h5 hO k8
      have e4 := e4.ap h5 hO k8 (mem_r (mem_l (List.mem_singleton.2 rfl)))
      have a1 := a1.ap h5 hO k8 (mem_r (mem_r (mem_r (mem_r (mem_l (List.mem_singleton.2 rfl))))))
      have a0 := a0.ap h5 hO k8 (mem_r (mem_r (mem_r (mem_l (List.mem_singleton.2 rfl)))))
      have a4 := a4.ma h5 hO k8 (fun _ e => (mem_r (mem_r (mem_l (e)))))
      have hC := hC.st h5 hO k8
      have hO := hO.eat h5 K5 (os_nodup m9) m9.fpl
      refine x_p 7 (.pointer (some ⟨a2, 1, none⟩)) rfl (by kernel_rfl)  (fun _ => y_faddr rfl Fa27x1) (fun h => nomatch h) ?_
      refine x_one (i := 8) (by kernel_rfl) ?_
      obtain ⟨y5, K6, h6, s7⟩ := box_store (P := Try.prog) a0 [(.int .i64 arity)] [(.slice b4 b5 b6)] [] [(.slice o5 o6 o7)] rfl rfl (by intro u hu; simp only [List.mem_cons, List.not_mem_nil, or_false] at hu; rcases hu with rfl <;> rfl)
      refine xk_skip (w' := y5) (b := true) rfl (ys_store rfl rfl (K6 _ _ rfl Sz25)) rfl (fun h => nomatch h) ?_
      have hO := hO.fr3
      have hl0x0 := hl0x0.mt h6 hO same_
      have e4 := e4.ap h6 hO same_ (mem_r (mem_l (List.mem_singleton.2 rfl)))
      have a1 := a1.ap h6 hO same_ (mem_r (mem_r (mem_r (mem_l (List.mem_singleton.2 rfl)))))
      have a4 := a4.ma h6 hO same_ (fun _ e => (mem_r (mem_r (mem_l (e)))))
      have m9 := m9.ma h6 hO same_ (fun _ e => (mem_l (e)))
      have hC := hC.st h6 hO same_
      have hO := hO.ext h6
      have s7 : BoxV y5 a2 27 [(.int .i64 arity), (.slice o5 o6 o7)] := s7
      refine x_end (by kernel_rfl) ?_
      clear hS
      refine c_region ?_
      refine pl_val (.int .i64 s300.1) (y_move rfl) ?_
      refine pl_val (.int .i64 (w64 (s300.1 + 1))) (y_add rfl rfl) ?_
      refine pl_val (.int .i64 (w64 (s300.1 + 1))) (y_assign rfl) ?_
      refine c_nil ?_
      cases hs
      have hO := hO.fr3
      have hO := hO.drop
      have hO := hO.fr2
      have hO := hO.fr3
      have hO := hO.fr2
      have hO := hO.fr3
      exact ⟨_, o5, o6, o7, K3, fr_ovl 100 ⟨rfl, rfl, rfl, rfl, rfl, rfl, trivial⟩, hC, hO, hl0x0, e4, a1, s7, m9⟩
     ·skip
      have hO := hO.fr4
      have s9 := hO
      have s9 := s9.fr1
      have y6 := Own.lend (F := (([vg0]) ++ ([]))) (R := b8 ++ (([a2]) ++ (([a3]) ++ ([])))) (Own.perm (s9.less) (by simp))
      obtain ⟨r332, s4, hs⟩ := bind_some hs
      refine xk_call (b := true) rfl  Bd61 rfl (c_spec_l1Cur__among (M := (Less M c0)) r314 (b0.1, s322.2.1, s322.2.2) (((Frz.os Frz.int)).val a4 Less.sub Less.not) (show BoxV _ vg0 53 [(.slice va0x0 vn0x0 vc0x0), (.int .i64 s322.2.1), (.int .u64 s322.2.2)] from hb0) (hl0x0.sub Less.sub) y6 y6.fut s4) rfl (fun h => nomatch h) ?_
      rintro _ t0 ⟨rfl, h7, c3, K7⟩
      have hO := hO.fr1
      have hO := hO.fr1
      have hO := hO.perm (R := (([vg0]) ++ ([])) ++ (c0 ++ (b8 ++ (([a2]) ++ (([a3]) ++ ([])))))) (by simp)
      have hl0x0 := hl0x0.mt h7 hO same_
      have a1 := a1.ap h7 hO same_ (mem_r (mem_r (mem_r (mem_l (List.mem_singleton.2 rfl)))))
      have a0 := a0.ap h7 hO same_ (mem_r (mem_r (mem_l (List.mem_singleton.2 rfl))))
      have a6 := a6.ma h7 hO same_ (fun _ e => (mem_r (mem_l (e))))
      have a4 := a4.ma h7 hO same_ (fun _ e => (mem_l (e)))
      have hC := hC.st h7 hO same_
      have hO := Own.join hO h7 K7
      have hO := hO.perm (R := [vg0] ++ (c0 ++ (b8 ++ (([a2]) ++ (([a3]) ++ ([])))))) (by simp)
      have c3 : BoxV t0 vg0 53 [(.slice va0x0 vn0x0 vc0x0), (.int .i64 r332.2.1), (.int .u64 r332.2.2)] := c3
      refine x_two (i := 1) (j := 5) (by kernel_rfl) ?_ ?_
      ·skip
       refine xk_val (b := true) (.slice b4 b5 b6) rfl  (y_load rfl ((box_load Ag25 Sz25 a0 [(.int .i64 arity)] [(.slice b4 b5 b6)] [] rfl rfl (fun _ => rfl)) _ (Chg.refl _ _))) rfl (fun h => nomatch h) ?_
       refine x_one (i := 5) (by kernel_rfl) ?_
       obtain ⟨y7, t1, K8, y8, f9, y9⟩ := new_block t0 [(.int .i64 r332.1)] 3
       refine xk_val (w' := y7) (b := true) (.slice (some ⟨t1, 0, none⟩) 1 1) rfl  (y_bslice rfl (by rw [K8, y8]; kernel_rfl)) rfl (fun h => nomatch h) ?_
       have hl0x0 := hl0x0.ext f9
       have c3 := c3.cn f9
       have a1 := a1.cn f9
       have a0 := a0.cn f9
       have a6 := a6.ext f9
       have a4 := a4.ext f9
       have hC := hC.ext f9
       have hO := hO.new1 f9 y8 y9.lt
       have t2 := os_of_box (r := (RT.int .i64)) (M := M) (css := [[(.int .i64 r332.1)]]) (fps := [([] : List Nat)]) (xs := ([r332.1] : List Int)) y9 ⟨⟨rfl, rfl⟩, trivial⟩ (Nat.le_of_ble_eq_true rfl) (List.nodup_cons.2 ⟨(fun h => nomatch h), List.nodup_nil⟩)
       have t2 : (RT.os 3 (RT.int .i64)).val M y7 (.slice (some ⟨t1, 0, none⟩) 1 1) [r332.1] [t1] := t2
       refine x_one (i := 6) (by kernel_rfl) ?_
       obtain ⟨y336, m8, hs⟩ := bind_some hs
       have hO := hO.fr3
       obtain ⟨o8, o9, p0, K9, L0, L1, h8, L2, n0⟩ := app_os Rw25 m8 a6 t2 hO.inM (fun g hg hq => hO.apart g hq (mem_l hg))
       have k9 := os_block a6
       refine xk_val (w' := K9) (b := true) (.slice o8 o9 p0) rfl  (y_append rfl rfl (L1 _)) rfl (fun h => nomatch h) ?_
       have hO := hO.fr1
       have hO := hO.fr1
       have hl0x0 := hl0x0.mt h8 hO k9
       have c3 := c3.ap h8 hO k9 (mem_r (mem_l (List.mem_singleton.2 rfl)))
       have a1 := a1.ap h8 hO k9 (mem_r (mem_r (mem_r (mem_r (mem_l (List.mem_singleton.2 rfl))))))
       have a0 := a0.ap h8 hO k9 (mem_r (mem_r (mem_r (mem_l (List.mem_singleton.2 rfl)))))
       have a4 := a4.ma h8 hO k9 (fun _ e => (mem_r (mem_r (mem_l (e)))))
       have hC := hC.st h8 hO k9
       have hO := hO.eat h8 L2 (os_nodup n0) n0.fpl
       refine x_p 7 (.pointer (some ⟨a2, 1, none⟩)) rfl (by kernel_rfl)  (fun _ => y_faddr rfl Fa27x1) (fun h => nomatch h) ?_
       refine x_one (i := 8) (by kernel_rfl) ?_
       obtain ⟨z0, L3, h9, t3⟩ := box_store (P := Try.prog) a0 [(.int .i64 arity)] [(.slice b4 b5 b6)] [] [(.slice o8 o9 p0)] rfl rfl (by intro u hu; simp only [List.mem_cons, List.not_mem_nil, or_false] at hu; rcases hu with rfl <;> rfl)
       refine xk_skip (w' := z0) (b := true) rfl (ys_store rfl rfl (L3 _ _ rfl Sz25)) rfl (fun h => nomatch h) ?_
       have hO := hO.fr3
       have hl0x0 := hl0x0.mt h9 hO same_
       have c3 := c3.ap h9 hO same_ (mem_r (mem_l (List.mem_singleton.2 rfl)))
       have a1 := a1.ap h9 hO same_ (mem_r (mem_r (mem_r (mem_l (List.mem_singleton.2 rfl)))))
       have a4 := a4.ma h9 hO same_ (fun _ e => (mem_r (mem_r (mem_l (e)))))
       have n0 := n0.ma h9 hO same_ (fun _ e => (mem_l (e)))
       have hC := hC.st h9 hO same_
       have hO := hO.ext h9
       have t3 : BoxV z0 a2 27 [(.int .i64 arity), (.slice o8 o9 p0)] := t3
       refine x_end (by kernel_rfl) ?_
       clear hS
       refine c_region ?_
       refine pl_val (.int .i64 s300.1) (y_move rfl) ?_
       refine pl_val (.int .i64 (w64 (s300.1 + 1))) (y_add rfl rfl) ?_
       refine pl_val (.int .i64 (w64 (s300.1 + 1))) (y_assign rfl) ?_
       refine c_nil ?_
       cases hs
       have hO := hO.fr3
       have hO := hO.drop
       have hO := hO.fr2
       have hO := hO.fr3
       have hO := hO.fr2
       have hO := hO.fr3
       exact ⟨_, o8, o9, p0, L0, fr_ovl 100 ⟨rfl, rfl, rfl, rfl, rfl, rfl, trivial⟩, hC, hO, hl0x0, c3, a1, t3, n0⟩
      ·skip
       obtain ⟨z1, t4, L4, z2, g0, z3⟩ := new_block t0 [(.int .i64 r332.1)] 3
       refine xk_val (w' := z1) (b := true) (.slice (some ⟨t4, 0, none⟩) 1 1) rfl  (y_bslice rfl (by rw [L4, z2]; kernel_rfl)) rfl (fun h => nomatch h) ?_
       have hl0x0 := hl0x0.ext g0
       have c3 := c3.cn g0
       have a1 := a1.cn g0
       have a0 := a0.cn g0
       have a6 := a6.ext g0
       have a4 := a4.ext g0
       have hC := hC.ext g0
       have hO := hO.new1 g0 z2 z3.lt
       have t5 := os_of_box (r := (RT.int .i64)) (M := M) (css := [[(.int .i64 r332.1)]]) (fps := [([] : List Nat)]) (xs := ([r332.1] : List Int)) z3 ⟨⟨rfl, rfl⟩, trivial⟩ (Nat.le_of_ble_eq_true rfl) (List.nodup_cons.2 ⟨(fun h => nomatch h), List.nodup_nil⟩)
       have t5 : (RT.os 3 (RT.int .i64)).val M z1 (.slice (some ⟨t4, 0, none⟩) 1 1) [r332.1] [t4] := t5
       refine x_one (i := 1) (by kernel_rfl) ?_
       refine xk_val (b := true) (.slice b4 b5 b6) rfl  (y_load rfl ((box_load Ag25 Sz25 a0 [(.int .i64 arity)] [(.slice b4 b5 b6)] [] rfl rfl (fun _ => rfl)) _ (Chg.refl _ _))) rfl (fun h => nomatch h) ?_
       refine x_one (i := 6) (by kernel_rfl) ?_
       obtain ⟨y336, m8, hs⟩ := bind_some hs
       have hO := hO.fr3
       obtain ⟨p1, p2, p3, L5, L6, L7, i0, L8, n1⟩ := app_os Rw25 m8 a6 t5 hO.inM (fun g hg hq => hO.apart g hq (mem_l hg))
       have l0 := os_block a6
       refine xk_val (w' := L5) (b := true) (.slice p1 p2 p3) rfl  (y_append rfl rfl (L7 _)) rfl (fun h => nomatch h) ?_
       have hO := hO.fr1
       have hO := hO.fr1
       have hl0x0 := hl0x0.mt i0 hO l0
       have c3 := c3.ap i0 hO l0 (mem_r (mem_l (List.mem_singleton.2 rfl)))
       have a1 := a1.ap i0 hO l0 (mem_r (mem_r (mem_r (mem_r (mem_l (List.mem_singleton.2 rfl))))))
       have a0 := a0.ap i0 hO l0 (mem_r (mem_r (mem_r (mem_l (List.mem_singleton.2 rfl)))))
       have a4 := a4.ma i0 hO l0 (fun _ e => (mem_r (mem_r (mem_l (e)))))
       have hC := hC.st i0 hO l0
       have hO := hO.eat i0 L8 (os_nodup n1) n1.fpl
       refine x_p 7 (.pointer (some ⟨a2, 1, none⟩)) rfl (by kernel_rfl)  (fun _ => y_faddr rfl Fa27x1) (fun h => nomatch h) ?_
       refine x_one (i := 8) (by kernel_rfl) ?_
       obtain ⟨z4, L9, i1, t6⟩ := box_store (P := Try.prog) a0 [(.int .i64 arity)] [(.slice b4 b5 b6)] [] [(.slice p1 p2 p3)] rfl rfl (by intro u hu; simp only [List.mem_cons, List.not_mem_nil, or_false] at hu; rcases hu with rfl <;> rfl)
       refine xk_skip (w' := z4) (b := true) rfl (ys_store rfl rfl (L9 _ _ rfl Sz25)) rfl (fun h => nomatch h) ?_
       have hO := hO.fr3
       have hl0x0 := hl0x0.mt i1 hO same_
       have c3 := c3.ap i1 hO same_ (mem_r (mem_l (List.mem_singleton.2 rfl)))
       have a1 := a1.ap i1 hO same_ (mem_r (mem_r (mem_r (mem_l (List.mem_singleton.2 rfl)))))
       have a4 := a4.ma i1 hO same_ (fun _ e => (mem_r (mem_r (mem_l (e)))))
       have n1 := n1.ma i1 hO same_ (fun _ e => (mem_l (e)))
       have hC := hC.st i1 hO same_
       have hO := hO.ext i1
       have t6 : BoxV z4 a2 27 [(.int .i64 arity), (.slice p1 p2 p3)] := t6
       refine x_end (by kernel_rfl) ?_
       clear hS
       refine c_region ?_
       refine pl_val (.int .i64 s300.1) (y_move rfl) ?_
       refine pl_val (.int .i64 (w64 (s300.1 + 1))) (y_add rfl rfl) ?_
       refine pl_val (.int .i64 (w64 (s300.1 + 1))) (y_assign rfl) ?_
       refine c_nil ?_
       cases hs
       have hO := hO.fr3
       have hO := hO.drop
       have hO := hO.fr2
       have hO := hO.fr3
       have hO := hO.fr2
       have hO := hO.fr3
       exact ⟨_, p1, p2, p3, L6, fr_ovl 100 ⟨rfl, rfl, rfl, rfl, rfl, rfl, trivial⟩, hC, hO, hl0x0, c3, a1, t6, n1⟩
    refine c_condF (congrArg Value.bool s2) ?_
    refine x_start [4, 6, 8] Mx rfl ?_
    have e5 := Chg.drew d0
    generalize World.drew d0 = M0 at e5 ⊢
    have hl0x0 := hl0x0.ext e5
    have hb0 := hb0.cn e5
    have a1 := a1.cn e5
    have a0 := a0.cn e5
    have a6 := a6.ext e5
    have a4 := a4.ext e5
    have hC := hC.ext e5
    have hO := hO.ext e5
    have hS := Chg.refl [] M0
    refine x_p 0 (.pointer (some ⟨a2, 1, none⟩)) rfl (by kernel_rfl)  (fun _ => y_faddr rfl Fa27x1) (fun _ => hS) ?_
    refine x_p 2 (.pointer (some ⟨vg0, 0, none⟩)) rfl (by kernel_rfl)  (fun _ => y_move rfl) (fun _ => hS) ?_
    refine x_p 3 (.int .i64 n) rfl (by kernel_rfl)  (fun _ => y_move rfl) (fun _ => hS) ?_
    refine x_two (i := 1) (j := 4) (by kernel_rfl) ?_ ?_
    ·skip
     refine xk_val (b := false) (.slice b4 b5 b6) rfl  (y_load rfl ((box_load Ag25 Sz25 a0 [(.int .i64 arity)] [(.slice b4 b5 b6)] [] rfl rfl (fun _ => rfl)) _ (Chg.refl _ _))) rfl (fun _ => hS) ?_
     refine x_one (i := 4) (by kernel_rfl) ?_
     have hO := hO.fr4
     have M1 := hO
     have z5 := Own.lend (F := (([vg0]) ++ ([]))) (R := c0 ++ (b8 ++ (([a2]) ++ (([a3]) ++ ([]))))) (Own.perm (M1) (by simp))
     obtain ⟨r355, t7, hs⟩ := bind_some hs
     refine xk_call (b := true) rfl  Bd62 rfl (c_spec_l1Cur__pick (M := M) n (b0.1, s322.2.1, s322.2.2) (show BoxV _ vg0 53 [(.slice va0x0 vn0x0 vc0x0), (.int .i64 s322.2.1), (.int .u64 s322.2.2)] from hb0) hl0x0 z5 z5.fut t7) rfl (fun h => nomatch h) ?_
     rintro _ z6 ⟨rfl, i2, e6, M2⟩
     have hO := hO.perm (R := (([vg0]) ++ ([])) ++ (c0 ++ (b8 ++ (([a2]) ++ (([a3]) ++ ([])))))) (by simp)
     have hl0x0 := hl0x0.mt i2 hO same_
     have a1 := a1.ap i2 hO same_ (mem_r (mem_r (mem_r (mem_l (List.mem_singleton.2 rfl)))))
     have a0 := a0.ap i2 hO same_ (mem_r (mem_r (mem_l (List.mem_singleton.2 rfl))))
     have a6 := a6.ma i2 hO same_ (fun _ e => (mem_r (mem_l (e))))
     have a4 := a4.ma i2 hO same_ (fun _ e => (mem_l (e)))
     have hC := hC.st i2 hO same_
     have hO := Own.join hO i2 M2
     have hO := hO.perm (R := [vg0] ++ (c0 ++ (b8 ++ (([a2]) ++ (([a3]) ++ ([])))))) (by simp)
     have e6 : BoxV z6 vg0 53 [(.slice va0x0 vn0x0 vc0x0), (.int .i64 r355.2.1), (.int .u64 r355.2.2)] := e6
     refine x_one (i := 5) (by kernel_rfl) ?_
     obtain ⟨z7, t8, M3, z8, g1, z9⟩ := new_block z6 [(.int .i64 r355.1)] 3
     refine xk_val (w' := z7) (b := true) (.slice (some ⟨t8, 0, none⟩) 1 1) rfl  (y_bslice rfl (by rw [M3, z8]; kernel_rfl)) rfl (fun h => nomatch h) ?_
     have hl0x0 := hl0x0.ext g1
     have e6 := e6.cn g1
     have a1 := a1.cn g1
     have a0 := a0.cn g1
     have a6 := a6.ext g1
     have a4 := a4.ext g1
     have hC := hC.ext g1
     have hO := hO.new1 g1 z8 z9.lt
     have t9 := os_of_box (r := (RT.int .i64)) (M := M) (css := [[(.int .i64 r355.1)]]) (fps := [([] : List Nat)]) (xs := ([r355.1] : List Int)) z9 ⟨⟨rfl, rfl⟩, trivial⟩ (Nat.le_of_ble_eq_true rfl) (List.nodup_cons.2 ⟨(fun h => nomatch h), List.nodup_nil⟩)
     have t9 : (RT.os 3 (RT.int .i64)).val M z7 (.slice (some ⟨t8, 0, none⟩) 1 1) [r355.1] [t8] := t9
     refine x_one (i := 6) (by kernel_rfl) ?_
     obtain ⟨y359, n2, hs⟩ := bind_some hs
     have hO := hO.fr3
     obtain ⟨p4, p5, p6, M4, M5, M6, i3, M7, n3⟩ := app_os Rw25 n2 a6 t9 hO.inM (fun g hg hq => hO.apart g hq (mem_l hg))
     have l1 := os_block a6
     refine xk_val (w' := M4) (b := true) (.slice p4 p5 p6) rfl  (y_append rfl rfl (M6 _)) rfl (fun h => nomatch h) ?_
     have hO := hO.fr1
     have hO := hO.fr1
     have hl0x0 := hl0x0.mt i3 hO l1
     have e6 := e6.ap i3 hO l1 (mem_r (mem_l (List.mem_singleton.2 rfl)))
     have a1 := a1.ap i3 hO l1 (mem_r (mem_r (mem_r (mem_r (mem_l (List.mem_singleton.2 rfl))))))
     have a0 := a0.ap i3 hO l1 (mem_r (mem_r (mem_r (mem_l (List.mem_singleton.2 rfl)))))
     have a4 := a4.ma i3 hO l1 (fun _ e => (mem_r (mem_r (mem_l (e)))))
     have hC := hC.st i3 hO l1
     have hO := hO.eat i3 M7 (os_nodup n3) n3.fpl
     refine x_p 7 (.pointer (some ⟨a2, 1, none⟩)) rfl (by kernel_rfl)  (fun _ => y_faddr rfl Fa27x1) (fun h => nomatch h) ?_
     refine x_one (i := 8) (by kernel_rfl) ?_
     obtain ⟨A0, M8, i4, u0⟩ := box_store (P := Try.prog) a0 [(.int .i64 arity)] [(.slice b4 b5 b6)] [] [(.slice p4 p5 p6)] rfl rfl (by intro u hu; simp only [List.mem_cons, List.not_mem_nil, or_false] at hu; rcases hu with rfl <;> rfl)
     refine xk_skip (w' := A0) (b := true) rfl (ys_store rfl rfl (M8 _ _ rfl Sz25)) rfl (fun h => nomatch h) ?_
     have hO := hO.fr3
     have hl0x0 := hl0x0.mt i4 hO same_
     have e6 := e6.ap i4 hO same_ (mem_r (mem_l (List.mem_singleton.2 rfl)))
     have a1 := a1.ap i4 hO same_ (mem_r (mem_r (mem_r (mem_l (List.mem_singleton.2 rfl)))))
     have a4 := a4.ma i4 hO same_ (fun _ e => (mem_r (mem_r (mem_l (e)))))
     have n3 := n3.ma i4 hO same_ (fun _ e => (mem_l (e)))
     have hC := hC.st i4 hO same_
     have hO := hO.ext i4
     have u0 : BoxV A0 a2 27 [(.int .i64 arity), (.slice p4 p5 p6)] := u0
     refine x_end (by kernel_rfl) ?_
     clear hS
     refine c_region ?_
     refine pl_val (.int .i64 s300.1) (y_move rfl) ?_
     refine pl_val (.int .i64 (w64 (s300.1 + 1))) (y_add rfl rfl) ?_
     refine pl_val (.int .i64 (w64 (s300.1 + 1))) (y_assign rfl) ?_
     refine c_nil ?_
     cases hs
     have hO := hO.fr3
     have hO := hO.drop
     have hO := hO.fr2
     have hO := hO.fr3
     have hO := hO.fr2
     have hO := hO.fr3
     exact ⟨_, p4, p5, p6, M5, fr_ovl 100 ⟨rfl, rfl, rfl, rfl, rfl, rfl, trivial⟩, hC, hO, hl0x0, e6, a1, u0, n3⟩
    ·skip
     have hO := hO.fr4
     have M9 := hO
     have A1 := Own.lend (F := (([vg0]) ++ ([]))) (R := c0 ++ (b8 ++ (([a2]) ++ (([a3]) ++ ([]))))) (Own.perm (M9) (by simp))
     obtain ⟨r355, t7, hs⟩ := bind_some hs
     refine xk_call (b := true) rfl  Bd62 rfl (c_spec_l1Cur__pick (M := M) n (b0.1, s322.2.1, s322.2.2) (show BoxV _ vg0 53 [(.slice va0x0 vn0x0 vc0x0), (.int .i64 s322.2.1), (.int .u64 s322.2.2)] from hb0) hl0x0 A1 A1.fut t7) rfl (fun h => nomatch h) ?_
     rintro _ u1 ⟨rfl, i5, c4, N0⟩
     have hO := hO.perm (R := (([vg0]) ++ ([])) ++ (c0 ++ (b8 ++ (([a2]) ++ (([a3]) ++ ([])))))) (by simp)
     have hl0x0 := hl0x0.mt i5 hO same_
     have a1 := a1.ap i5 hO same_ (mem_r (mem_r (mem_r (mem_l (List.mem_singleton.2 rfl)))))
     have a0 := a0.ap i5 hO same_ (mem_r (mem_r (mem_l (List.mem_singleton.2 rfl))))
     have a6 := a6.ma i5 hO same_ (fun _ e => (mem_r (mem_l (e))))
     have a4 := a4.ma i5 hO same_ (fun _ e => (mem_l (e)))
     have hC := hC.st i5 hO same_
     have hO := Own.join hO i5 N0
     have hO := hO.perm (R := [vg0] ++ (c0 ++ (b8 ++ (([a2]) ++ (([a3]) ++ ([])))))) (by simp)
     have c4 : BoxV u1 vg0 53 [(.slice va0x0 vn0x0 vc0x0), (.int .i64 r355.2.1), (.int .u64 r355.2.2)] := c4
     refine x_two (i := 1) (j := 5) (by kernel_rfl) ?_ ?_
     ·skip
      refine xk_val (b := true) (.slice b4 b5 b6) rfl  (y_load rfl ((box_load Ag25 Sz25 a0 [(.int .i64 arity)] [(.slice b4 b5 b6)] [] rfl rfl (fun _ => rfl)) _ (Chg.refl _ _))) rfl (fun h => nomatch h) ?_
      refine x_one (i := 5) (by kernel_rfl) ?_
      obtain ⟨A2, u2, N1, A3, g2, A4⟩ := new_block u1 [(.int .i64 r355.1)] 3
      refine xk_val (w' := A2) (b := true) (.slice (some ⟨u2, 0, none⟩) 1 1) rfl  (y_bslice rfl (by rw [N1, A3]; kernel_rfl)) rfl (fun h => nomatch h) ?_
      have hl0x0 := hl0x0.ext g2
      have c4 := c4.cn g2
      have a1 := a1.cn g2
      have a0 := a0.cn g2
      have a6 := a6.ext g2
      have a4 := a4.ext g2
      have hC := hC.ext g2
      have hO := hO.new1 g2 A3 A4.lt
      have u3 := os_of_box (r := (RT.int .i64)) (M := M) (css := [[(.int .i64 r355.1)]]) (fps := [([] : List Nat)]) (xs := ([r355.1] : List Int)) A4 ⟨⟨rfl, rfl⟩, trivial⟩ (Nat.le_of_ble_eq_true rfl) (List.nodup_cons.2 ⟨(fun h => nomatch h), List.nodup_nil⟩)
      have u3 : (RT.os 3 (RT.int .i64)).val M A2 (.slice (some ⟨u2, 0, none⟩) 1 1) [r355.1] [u2] := u3
      refine x_one (i := 6) (by kernel_rfl) ?_
      obtain ⟨y359, n2, hs⟩ := bind_some hs
      have hO := hO.fr3
      obtain ⟨p7, p8, p9, N2, N3, N4, i6, N5, n4⟩ := app_os Rw25 n2 a6 u3 hO.inM (fun g hg hq => hO.apart g hq (mem_l hg))
      have l2 := os_block a6
      refine xk_val (w' := N2) (b := true) (.slice p7 p8 p9) rfl  (y_append rfl rfl (N4 _)) rfl (fun h => nomatch h) ?_
      have hO := hO.fr1
      have hO := hO.fr1
      have hl0x0 := hl0x0.mt i6 hO l2
      have c4 := c4.ap i6 hO l2 (mem_r (mem_l (List.mem_singleton.2 rfl)))
      have a1 := a1.ap i6 hO l2 (mem_r (mem_r (mem_r (mem_r (mem_l (List.mem_singleton.2 rfl))))))
      have a0 := a0.ap i6 hO l2 (mem_r (mem_r (mem_r (mem_l (List.mem_singleton.2 rfl)))))
      have a4 := a4.ma i6 hO l2 (fun _ e => (mem_r (mem_r (mem_l (e)))))
      have hC := hC.st i6 hO l2
      have hO := hO.eat i6 N5 (os_nodup n4) n4.fpl
      refine x_p 7 (.pointer (some ⟨a2, 1, none⟩)) rfl (by kernel_rfl)  (fun _ => y_faddr rfl Fa27x1) (fun h => nomatch h) ?_
      refine x_one (i := 8) (by kernel_rfl) ?_
      obtain ⟨A5, N6, i7, u4⟩ := box_store (P := Try.prog) a0 [(.int .i64 arity)] [(.slice b4 b5 b6)] [] [(.slice p7 p8 p9)] rfl rfl (by intro u hu; simp only [List.mem_cons, List.not_mem_nil, or_false] at hu; rcases hu with rfl <;> rfl)
      refine xk_skip (w' := A5) (b := true) rfl (ys_store rfl rfl (N6 _ _ rfl Sz25)) rfl (fun h => nomatch h) ?_
      have hO := hO.fr3
      have hl0x0 := hl0x0.mt i7 hO same_
      have c4 := c4.ap i7 hO same_ (mem_r (mem_l (List.mem_singleton.2 rfl)))
      have a1 := a1.ap i7 hO same_ (mem_r (mem_r (mem_r (mem_l (List.mem_singleton.2 rfl)))))
      have a4 := a4.ma i7 hO same_ (fun _ e => (mem_r (mem_r (mem_l (e)))))
      have n4 := n4.ma i7 hO same_ (fun _ e => (mem_l (e)))
      have hC := hC.st i7 hO same_
      have hO := hO.ext i7
      have u4 : BoxV A5 a2 27 [(.int .i64 arity), (.slice p7 p8 p9)] := u4
      refine x_end (by kernel_rfl) ?_
      clear hS
      refine c_region ?_
      refine pl_val (.int .i64 s300.1) (y_move rfl) ?_
      refine pl_val (.int .i64 (w64 (s300.1 + 1))) (y_add rfl rfl) ?_
      refine pl_val (.int .i64 (w64 (s300.1 + 1))) (y_assign rfl) ?_
      refine c_nil ?_
      cases hs
      have hO := hO.fr3
      have hO := hO.drop
      have hO := hO.fr2
      have hO := hO.fr3
      have hO := hO.fr2
      have hO := hO.fr3
      exact ⟨_, p7, p8, p9, N3, fr_ovl 100 ⟨rfl, rfl, rfl, rfl, rfl, rfl, trivial⟩, hC, hO, hl0x0, c4, a1, u4, n4⟩
     ·skip
      obtain ⟨A6, u5, N7, A7, g3, A8⟩ := new_block u1 [(.int .i64 r355.1)] 3
      refine xk_val (w' := A6) (b := true) (.slice (some ⟨u5, 0, none⟩) 1 1) rfl  (y_bslice rfl (by rw [N7, A7]; kernel_rfl)) rfl (fun h => nomatch h) ?_
      have hl0x0 := hl0x0.ext g3
      have c4 := c4.cn g3
      have a1 := a1.cn g3
      have a0 := a0.cn g3
      have a6 := a6.ext g3
      have a4 := a4.ext g3
      have hC := hC.ext g3
      have hO := hO.new1 g3 A7 A8.lt
      have u6 := os_of_box (r := (RT.int .i64)) (M := M) (css := [[(.int .i64 r355.1)]]) (fps := [([] : List Nat)]) (xs := ([r355.1] : List Int)) A8 ⟨⟨rfl, rfl⟩, trivial⟩ (Nat.le_of_ble_eq_true rfl) (List.nodup_cons.2 ⟨(fun h => nomatch h), List.nodup_nil⟩)
      have u6 : (RT.os 3 (RT.int .i64)).val M A6 (.slice (some ⟨u5, 0, none⟩) 1 1) [r355.1] [u5] := u6
      refine x_one (i := 1) (by kernel_rfl) ?_
      refine xk_val (b := true) (.slice b4 b5 b6) rfl  (y_load rfl ((box_load Ag25 Sz25 a0 [(.int .i64 arity)] [(.slice b4 b5 b6)] [] rfl rfl (fun _ => rfl)) _ (Chg.refl _ _))) rfl (fun h => nomatch h) ?_
      refine x_one (i := 6) (by kernel_rfl) ?_
      obtain ⟨y359, n2, hs⟩ := bind_some hs
      have hO := hO.fr3
      obtain ⟨q0, q1, q2, N8, N9, O0, i9, O1, n5⟩ := app_os Rw25 n2 a6 u6 hO.inM (fun g hg hq => hO.apart g hq (mem_l hg))
      have l3 := os_block a6
      refine xk_val (w' := N8) (b := true) (.slice q0 q1 q2) rfl  (y_append rfl rfl (O0 _)) rfl (fun h => nomatch h) ?_
      have hO := hO.fr1
      have hO := hO.fr1
      have hl0x0 := hl0x0.mt i9 hO l3
      have c4 := c4.ap i9 hO l3 (mem_r (mem_l (List.mem_singleton.2 rfl)))
      have a1 := a1.ap i9 hO l3 (mem_r (mem_r (mem_r (mem_r (mem_l (List.mem_singleton.2 rfl))))))
      have a0 := a0.ap i9 hO l3 (mem_r (mem_r (mem_r (mem_l (List.mem_singleton.2 rfl)))))
      have a4 := a4.ma i9 hO l3 (fun _ e => (mem_r (mem_r (mem_l (e)))))
      have hC := hC.st i9 hO l3
      have hO := hO.eat i9 O1 (os_nodup n5) n5.fpl
      refine x_p 7 (.pointer (some ⟨a2, 1, none⟩)) rfl (by kernel_rfl)  (fun _ => y_faddr rfl Fa27x1) (fun h => nomatch h) ?_
      refine x_one (i := 8) (by kernel_rfl) ?_
      obtain ⟨A9, O2, j0, u7⟩ := box_store (P := Try.prog) a0 [(.int .i64 arity)] [(.slice b4 b5 b6)] [] [(.slice q0 q1 q2)] rfl rfl (by intro u hu; simp only [List.mem_cons, List.not_mem_nil, or_false] at hu; rcases hu with rfl <;> rfl)
      refine xk_skip (w' := A9) (b := true) rfl (ys_store rfl rfl (O2 _ _ rfl Sz25)) rfl (fun h => nomatch h) ?_
      have hO := hO.fr3
      have hl0x0 := hl0x0.mt j0 hO same_
      have c4 := c4.ap j0 hO same_ (mem_r (mem_l (List.mem_singleton.2 rfl)))
      have a1 := a1.ap j0 hO same_ (mem_r (mem_r (mem_r (mem_l (List.mem_singleton.2 rfl)))))
      have a4 := a4.ma j0 hO same_ (fun _ e => (mem_r (mem_r (mem_l (e)))))
      have n5 := n5.ma j0 hO same_ (fun _ e => (mem_l (e)))
      have hC := hC.st j0 hO same_
      have hO := hO.ext j0
      have u7 : BoxV A9 a2 27 [(.int .i64 arity), (.slice q0 q1 q2)] := u7
      refine x_end (by kernel_rfl) ?_
      clear hS
      refine c_region ?_
      refine pl_val (.int .i64 s300.1) (y_move rfl) ?_
      refine pl_val (.int .i64 (w64 (s300.1 + 1))) (y_add rfl rfl) ?_
      refine pl_val (.int .i64 (w64 (s300.1 + 1))) (y_assign rfl) ?_
      refine c_nil ?_
      cases hs
      have hO := hO.fr3
      have hO := hO.drop
      have hO := hO.fr2
      have hO := hO.fr3
      have hO := hO.fr2
      have hO := hO.fr3
      exact ⟨_, q0, q1, q2, N9, fr_ovl 100 ⟨rfl, rfl, rfl, rfl, rfl, rfl, trivial⟩, hC, hO, hl0x0, c4, a1, u7, n5⟩
   refine c_condF (congrArg Value.bool s0) ?_
   refine wp_exit ?_
   cases hs
   have hO := hO.fr3
   have hO := hO.fr3
   have hO := hO.fr3
   have hO := hO.fr3
   exact ⟨rfl, _, b4, b5, b6, b8, fr_ovl 100 ⟨rfl, rfl, rfl, rfl, trivial⟩, hC, hO, hl0x0, hb0, a1, a0, a6⟩
  ·skip
   have hO := hO.fr3
   have hO := hO.fr3
   have hO := hO.fr2
   have hO := hO.fr3
   exact ⟨_, (some ⟨a7, 0, none⟩), 0, 0, ([a7]), fr_ovl 100 ⟨rfl, rfl, rfl, rfl, rfl, rfl, trivial⟩, hC, hO, hl0x0, hb0, a1, a0, a5⟩
  cases o304 with
  | nx _ => exact True.intro
  | rt r_ =>
   have hs := after_rt hs
   intro g5 v9 hK
   cases hs
   exact hK
  | br s300 =>
   have hs := after_br hs
   rintro g5 c2 ⟨σ, a8, a9, b1, b9, rfl, hC, hO, hl0x0, hb0, a1, a0, b2⟩
   refine c_seq ?_
   refine c_sr ?_
   refine pl_val (.pointer (some ⟨vg0, 0, none⟩)) (y_move rfl) ?_
   have hO := hO.fr3
   have O3 := hO
   have B0 := Own.lend (F := (([vg0]) ++ ([]))) (R := b9 ++ (([a2]) ++ (([a3]) ++ ([])))) (Own.perm (O3) (by simp))
   obtain ⟨r377, O4, hs⟩ := bind_some hs
   refine pl_call Bd75 rfl (c_spec_l1Cur__one (M := M) 32 (b0.1, s300.2.1, s300.2.2.1) (show BoxV _ vg0 53 [(.slice va0x0 vn0x0 vc0x0), (.int .i64 s300.2.1), (.int .u64 s300.2.2.1)] from hb0) hl0x0 B0 B0.fut O4) ?_
   rintro _ u9 ⟨rfl, l4, c8, O5⟩
   have hO := hO.perm (R := (([vg0]) ++ ([])) ++ (b9 ++ (([a2]) ++ (([a3]) ++ ([]))))) (by simp)
   have hl0x0 := hl0x0.mt l4 hO same_
   have a1 := a1.ap l4 hO same_ (mem_r (mem_r (mem_l (List.mem_singleton.2 rfl))))
   have a0 := a0.ap l4 hO same_ (mem_r (mem_l (List.mem_singleton.2 rfl)))
   have b2 := b2.ma l4 hO same_ (fun _ e => (mem_l (e)))
   have hC := hC.st l4 hO same_
   have hO := Own.join hO l4 O5
   have hO := hO.perm (R := [vg0] ++ (b9 ++ (([a2]) ++ (([a3]) ++ ([]))))) (by simp)
   have c8 : BoxV u9 vg0 53 [(.slice va0x0 vn0x0 vc0x0), (.int .i64 r377.2.1), (.int .u64 r377.2.2)] := c8
   refine c_nil ?_
   rcases bif_some hs with ⟨v0, hs⟩ | ⟨v0, hs⟩
   ·refine c_condT (congrArg Value.bool v0) ?_
    refine x_start [5, 7] Mx rfl ?_
    have g4 := Chg.drew u9
    generalize World.drew u9 = v1 at g4 ⊢
    have hl0x0 := hl0x0.ext g4
    have c8 := c8.cn g4
    have a1 := a1.cn g4
    have a0 := a0.cn g4
    have b2 := b2.ext g4
    have hC := hC.ext g4
    have hO := hO.ext g4
    have hS := Chg.refl [] v1
    refine x_p 0 (.pointer (some ⟨a2, 1, none⟩)) rfl (by kernel_rfl)  (fun _ => y_faddr rfl Fa27x1) (fun _ => hS) ?_
    refine x_p 2 (.pointer (some ⟨vg0, 0, none⟩)) rfl (by kernel_rfl)  (fun _ => y_move rfl) (fun _ => hS) ?_
    refine x_p 3 (.int .i64 n) rfl (by kernel_rfl)  (fun _ => y_move rfl) (fun _ => hS) ?_
    refine x_two (i := 1) (j := 4) (by kernel_rfl) ?_ ?_
    ·skip
     refine xk_val (b := false) (.slice a8 a9 b1) rfl  (y_load rfl ((box_load Ag25 Sz25 a0 [(.int .i64 arity)] [(.slice a8 a9 b1)] [] rfl rfl (fun _ => rfl)) _ (Chg.refl _ _))) rfl (fun _ => hS) ?_
     refine x_one (i := 4) (by kernel_rfl) ?_
     obtain ⟨B1, l5, O6, B2, e7, B3⟩ := new_block v1 [(.int .i64 (-1)), (.int .i64 n)] 3
     refine xk_val (w' := B1) (b := false) (.slice (some ⟨l5, 0, none⟩) 2 2) rfl  (y_bslice rfl (by rw [O6, B2]; kernel_rfl)) rfl (fun _ => hS.ext e7) ?_
     have hl0x0 := hl0x0.ext e7
     have c8 := c8.cn e7
     have a1 := a1.cn e7
     have a0 := a0.cn e7
     have b2 := b2.ext e7
     have hC := hC.ext e7
     have hO := hO.new1 e7 B2 B3.lt
     have e8 := os_of_box (r := (RT.int .i64)) (M := M) (css := [[(.int .i64 (-1))], [(.int .i64 n)]]) (fps := [([] : List Nat), ([] : List Nat)]) (xs := ([(-1), n] : List Int)) B3 ⟨⟨rfl, rfl⟩, ⟨⟨rfl, rfl⟩, trivial⟩⟩ (Nat.le_of_ble_eq_true rfl) (List.nodup_cons.2 ⟨(fun h => nomatch h), List.nodup_nil⟩)
     have e8 : (RT.os 3 (RT.int .i64)).val M B1 (.slice (some ⟨l5, 0, none⟩) 2 2) [(-1), n] [l5] := e8
     have hS := hS.ext e7
     refine x_one (i := 5) (by kernel_rfl) ?_
     have hO := hO.fr1
     have v2 := hO
     have v2 := v2.fr1
     have B4 := Own.lend (F := (([vg0]) ++ ([]))) (R := b9 ++ (([a2]) ++ (([a3]) ++ ([])))) (Own.perm (v2.less) (by simp))
     obtain ⟨r383, n6, hs⟩ := bind_some hs
     refine xk_call (b := true) rfl  Bd61 rfl (c_spec_l1Cur__among (M := (Less M ([l5]))) ([(-1), n]) (b0.1, r377.2.1, r377.2.2) (((Frz.os Frz.int)).val e8 Less.sub Less.not) (show BoxV _ vg0 53 [(.slice va0x0 vn0x0 vc0x0), (.int .i64 r377.2.1), (.int .u64 r377.2.2)] from c8) (hl0x0.sub Less.sub) B4 B4.fut n6) rfl (fun h => nomatch h) ?_
     rintro _ O7 ⟨rfl, j1, j2, O8⟩
     have hO := hO.fr1
     have hO := hO.fr1
     have hO := hO.perm (R := (([vg0]) ++ ([])) ++ (([l5]) ++ (b9 ++ (([a2]) ++ (([a3]) ++ ([])))))) (by simp)
     have hl0x0 := hl0x0.mt j1 hO same_
     have a1 := a1.ap j1 hO same_ (mem_r (mem_r (mem_r (mem_l (List.mem_singleton.2 rfl)))))
     have a0 := a0.ap j1 hO same_ (mem_r (mem_r (mem_l (List.mem_singleton.2 rfl))))
     have b2 := b2.ma j1 hO same_ (fun _ e => (mem_r (mem_l (e))))
     have e8 := e8.ma j1 hO same_ (fun _ e => (mem_l (e)))
     have hC := hC.st j1 hO same_
     have hO := Own.join hO j1 O8
     have hO := hO.perm (R := [vg0] ++ (([l5]) ++ (b9 ++ (([a2]) ++ (([a3]) ++ ([])))))) (by simp)
     have j2 : BoxV O7 vg0 53 [(.slice va0x0 vn0x0 vc0x0), (.int .i64 r383.2.1), (.int .u64 r383.2.2)] := j2
     obtain ⟨x384, n7, hs⟩ := bind_some hs
     obtain ⟨B5, T4, B6, O9, P0, T5, T6⟩ := os_idx Sl25 Sz3 b2 n7
     refine x_p 6 (.pointer (some ⟨B5, 0 + Int.toNat 0 * 1, none⟩)) rfl (by kernel_rfl)  (fun _ => P0 _ _ _ _ _ _ _ _ _ rfl rfl) (fun h => nomatch h) ?_
     refine x_one (i := 7) (by kernel_rfl) ?_
     have hO := hO.fr2
     obtain ⟨P1, P2, P3, j3, P4, n8⟩ := os_store (P := Try.prog) (c' := [(.int .i64 r383.1)]) B6 b2 O9 (fun g hg => hO.inM g (os_block b2 g (by simpa using hg))) ⟨rfl, rfl⟩ List.nodup_nil (fun _ h => nomatch h) (fun _ h => .inl h)
     have l6 : ∀ q ∈ [B5], q ∈ b9 := fun q hq => os_block b2 q (by rw [B6]; exact hq)
     refine xk_skip (w' := P1) (b := true) rfl (ys_store rfl rfl (P3 _ _ rfl Sz3)) rfl (fun h => nomatch h) ?_
     have hl0x0 := hl0x0.mt j3 hO l6
     have j2 := j2.ap j3 hO l6 (mem_l (List.mem_singleton.2 rfl))
     have a1 := a1.ap j3 hO l6 (mem_r (mem_r (mem_r (mem_l (List.mem_singleton.2 rfl)))))
     have a0 := a0.ap j3 hO l6 (mem_r (mem_r (mem_l (List.mem_singleton.2 rfl))))
     have e8 := e8.ma j3 hO l6 (fun _ e => (mem_r (mem_l (e))))
     have hC := hC.st j3 hO l6
     have hO := hO.grow j3 (fun q hq => .inl ((P4 q hq).resolve_right (fun h => nomatch h))) (os_nodup n8) n8.fpl
     refine x_end (by kernel_rfl) ?_
     clear hS
     refine c_sr ?_
     refine pl_val (.agg #[(.int .i64 arity), (.slice a8 a9 b1)]) (y_load rfl ((box_load Ag27 Sz27 a0 [] [(.int .i64 arity), (.slice a8 a9 b1)] [] rfl rfl (fun h => nomatch h)) _ (Chg.refl _ _))) ?_
     obtain ⟨B7, P5, j4, v3⟩ := box_store (P := Try.prog) a1 [] [(.int .i64 0), (.slice none 0 0)] [] [(.int .i64 arity), (.slice a8 a9 b1)] rfl rfl (by intro u hu; simp only [List.mem_cons, List.not_mem_nil, or_false] at hu; rcases hu with rfl | rfl <;> rfl)
     refine pl_skip (w' := B7) (ys_store rfl rfl (P5 _ _ rfl Sz27)) ?_
     have hO := hO.fr4
     have hl0x0 := hl0x0.mt j4 hO same_
     have j2 := j2.ap j4 hO same_ (mem_r (mem_l (List.mem_singleton.2 rfl)))
     have a0 := a0.ap j4 hO same_ (mem_r (mem_r (mem_r (mem_l (List.mem_singleton.2 rfl)))))
     have n8 := n8.ma j4 hO same_ (fun _ e => (mem_l (e)))
     have e8 := e8.ma j4 hO same_ (fun _ e => (mem_r (mem_r (mem_l (e)))))
     have hC := hC.st j4 hO same_
     have hO := hO.ext j4
     have v3 : BoxV B7 a3 27 [(.int .i64 arity), (.slice a8 a9 b1)] := v3
     refine c_nil ?_
     refine wp_ret ?_
     cases hs
     have hO := hO.drop
     have hO := hO.fr2
     have hO := hO.drop
     have hO := hO.fr2
     have hO := hO.drop
     have hO := hO.fr1
     have hO := hO.fr1
     exact ⟨_, a3, a8, a9, b1, P2, fr_ovl 100 ⟨rfl, trivial⟩, v3, hC, n8, j2, hO.top⟩
    ·skip
     obtain ⟨B8, e9, P6, B9, f0, C0⟩ := new_block v1 [(.int .i64 (-1)), (.int .i64 n)] 3
     refine xk_val (w' := B8) (b := false) (.slice (some ⟨e9, 0, none⟩) 2 2) rfl  (y_bslice rfl (by rw [P6, B9]; kernel_rfl)) rfl (fun _ => hS.ext f0) ?_
     have hl0x0 := hl0x0.ext f0
     have c8 := c8.cn f0
     have a1 := a1.cn f0
     have a0 := a0.cn f0
     have b2 := b2.ext f0
     have hC := hC.ext f0
     have hO := hO.new1 f0 B9 C0.lt
     have c5 := os_of_box (r := (RT.int .i64)) (M := M) (css := [[(.int .i64 (-1))], [(.int .i64 n)]]) (fps := [([] : List Nat), ([] : List Nat)]) (xs := ([(-1), n] : List Int)) C0 ⟨⟨rfl, rfl⟩, ⟨⟨rfl, rfl⟩, trivial⟩⟩ (Nat.le_of_ble_eq_true rfl) (List.nodup_cons.2 ⟨(fun h => nomatch h), List.nodup_nil⟩)
     have c5 : (RT.os 3 (RT.int .i64)).val M B8 (.slice (some ⟨e9, 0, none⟩) 2 2) [(-1), n] [e9] := c5
     have hS := hS.ext f0
     refine x_two (i := 1) (j := 5) (by kernel_rfl) ?_ ?_
     ·skip
      refine xk_val (b := false) (.slice a8 a9 b1) rfl  (y_load rfl ((box_load Ag25 Sz25 a0 [(.int .i64 arity)] [(.slice a8 a9 b1)] [] rfl rfl (fun _ => rfl)) _ (Chg.refl _ _))) rfl (fun _ => hS) ?_
      refine x_one (i := 5) (by kernel_rfl) ?_
      have hO := hO.fr1
      have v4 := hO
      have v4 := v4.fr1
      have C1 := Own.lend (F := (([vg0]) ++ ([]))) (R := b9 ++ (([a2]) ++ (([a3]) ++ ([])))) (Own.perm (v4.less) (by simp))
      obtain ⟨r383, n6, hs⟩ := bind_some hs
      refine xk_call (b := true) rfl  Bd61 rfl (c_spec_l1Cur__among (M := (Less M ([e9]))) ([(-1), n]) (b0.1, r377.2.1, r377.2.2) (((Frz.os Frz.int)).val c5 Less.sub Less.not) (show BoxV _ vg0 53 [(.slice va0x0 vn0x0 vc0x0), (.int .i64 r377.2.1), (.int .u64 r377.2.2)] from c8) (hl0x0.sub Less.sub) C1 C1.fut n6) rfl (fun h => nomatch h) ?_
      rintro _ P7 ⟨rfl, j5, j6, P8⟩
      have hO := hO.fr1
      have hO := hO.fr1
      have hO := hO.perm (R := (([vg0]) ++ ([])) ++ (([e9]) ++ (b9 ++ (([a2]) ++ (([a3]) ++ ([])))))) (by simp)
      have hl0x0 := hl0x0.mt j5 hO same_
      have a1 := a1.ap j5 hO same_ (mem_r (mem_r (mem_r (mem_l (List.mem_singleton.2 rfl)))))
      have a0 := a0.ap j5 hO same_ (mem_r (mem_r (mem_l (List.mem_singleton.2 rfl))))
      have b2 := b2.ma j5 hO same_ (fun _ e => (mem_r (mem_l (e))))
      have c5 := c5.ma j5 hO same_ (fun _ e => (mem_l (e)))
      have hC := hC.st j5 hO same_
      have hO := Own.join hO j5 P8
      have hO := hO.perm (R := [vg0] ++ (([e9]) ++ (b9 ++ (([a2]) ++ (([a3]) ++ ([])))))) (by simp)
      have j6 : BoxV P7 vg0 53 [(.slice va0x0 vn0x0 vc0x0), (.int .i64 r383.2.1), (.int .u64 r383.2.2)] := j6
      obtain ⟨x384, n7, hs⟩ := bind_some hs
      obtain ⟨C2, T7, C3, P9, Q0, T8, T9⟩ := os_idx Sl25 Sz3 b2 n7
      refine x_p 6 (.pointer (some ⟨C2, 0 + Int.toNat 0 * 1, none⟩)) rfl (by kernel_rfl)  (fun _ => Q0 _ _ _ _ _ _ _ _ _ rfl rfl) (fun h => nomatch h) ?_
      refine x_one (i := 7) (by kernel_rfl) ?_
      have hO := hO.fr2
      obtain ⟨Q1, Q2, Q3, j7, Q4, n9⟩ := os_store (P := Try.prog) (c' := [(.int .i64 r383.1)]) C3 b2 P9 (fun g hg => hO.inM g (os_block b2 g (by simpa using hg))) ⟨rfl, rfl⟩ List.nodup_nil (fun _ h => nomatch h) (fun _ h => .inl h)
      have l7 : ∀ q ∈ [C2], q ∈ b9 := fun q hq => os_block b2 q (by rw [C3]; exact hq)
      refine xk_skip (w' := Q1) (b := true) rfl (ys_store rfl rfl (Q3 _ _ rfl Sz3)) rfl (fun h => nomatch h) ?_
      have hl0x0 := hl0x0.mt j7 hO l7
      have j6 := j6.ap j7 hO l7 (mem_l (List.mem_singleton.2 rfl))
      have a1 := a1.ap j7 hO l7 (mem_r (mem_r (mem_r (mem_l (List.mem_singleton.2 rfl)))))
      have a0 := a0.ap j7 hO l7 (mem_r (mem_r (mem_l (List.mem_singleton.2 rfl))))
      have c5 := c5.ma j7 hO l7 (fun _ e => (mem_r (mem_l (e))))
      have hC := hC.st j7 hO l7
      have hO := hO.grow j7 (fun q hq => .inl ((Q4 q hq).resolve_right (fun h => nomatch h))) (os_nodup n9) n9.fpl
      refine x_end (by kernel_rfl) ?_
      clear hS
      refine c_sr ?_
      refine pl_val (.agg #[(.int .i64 arity), (.slice a8 a9 b1)]) (y_load rfl ((box_load Ag27 Sz27 a0 [] [(.int .i64 arity), (.slice a8 a9 b1)] [] rfl rfl (fun h => nomatch h)) _ (Chg.refl _ _))) ?_
      obtain ⟨C4, Q5, j8, v5⟩ := box_store (P := Try.prog) a1 [] [(.int .i64 0), (.slice none 0 0)] [] [(.int .i64 arity), (.slice a8 a9 b1)] rfl rfl (by intro u hu; simp only [List.mem_cons, List.not_mem_nil, or_false] at hu; rcases hu with rfl | rfl <;> rfl)
      refine pl_skip (w' := C4) (ys_store rfl rfl (Q5 _ _ rfl Sz27)) ?_
      have hO := hO.fr4
      have hl0x0 := hl0x0.mt j8 hO same_
      have j6 := j6.ap j8 hO same_ (mem_r (mem_l (List.mem_singleton.2 rfl)))
      have a0 := a0.ap j8 hO same_ (mem_r (mem_r (mem_r (mem_l (List.mem_singleton.2 rfl)))))
      have n9 := n9.ma j8 hO same_ (fun _ e => (mem_l (e)))
      have c5 := c5.ma j8 hO same_ (fun _ e => (mem_r (mem_r (mem_l (e)))))
      have hC := hC.st j8 hO same_
      have hO := hO.ext j8
      have v5 : BoxV C4 a3 27 [(.int .i64 arity), (.slice a8 a9 b1)] := v5
      refine c_nil ?_
      refine wp_ret ?_
      cases hs
      have hO := hO.drop
      have hO := hO.fr2
      have hO := hO.drop
      have hO := hO.fr2
      have hO := hO.drop
      have hO := hO.fr1
      have hO := hO.fr1
      exact ⟨_, a3, a8, a9, b1, Q2, fr_ovl 100 ⟨rfl, trivial⟩, v5, hC, n9, j6, hO.top⟩
     ·skip
      have hO := hO.fr1
      have v6 := hO
      have v6 := v6.fr1
      have C5 := Own.lend (F := (([vg0]) ++ ([]))) (R := b9 ++ (([a2]) ++ (([a3]) ++ ([])))) (Own.perm (v6.less) (by simp))
      obtain ⟨r383, n6, hs⟩ := bind_some hs
      refine xk_call (b := true) rfl  Bd61 rfl (c_spec_l1Cur__among (M := (Less M ([e9]))) ([(-1), n]) (b0.1, r377.2.1, r377.2.2) (((Frz.os Frz.int)).val c5 Less.sub Less.not) (show BoxV _ vg0 53 [(.slice va0x0 vn0x0 vc0x0), (.int .i64 r377.2.1), (.int .u64 r377.2.2)] from c8) (hl0x0.sub Less.sub) C5 C5.fut n6) rfl (fun h => nomatch h) ?_
      rintro _ Q6 ⟨rfl, j9, k0, Q7⟩
      have hO := hO.fr1
      have hO := hO.fr1
      have hO := hO.perm (R := (([vg0]) ++ ([])) ++ (([e9]) ++ (b9 ++ (([a2]) ++ (([a3]) ++ ([])))))) (by simp)
      have hl0x0 := hl0x0.mt j9 hO same_
      have a1 := a1.ap j9 hO same_ (mem_r (mem_r (mem_r (mem_l (List.mem_singleton.2 rfl)))))
      have a0 := a0.ap j9 hO same_ (mem_r (mem_r (mem_l (List.mem_singleton.2 rfl))))
      have b2 := b2.ma j9 hO same_ (fun _ e => (mem_r (mem_l (e))))
      have c5 := c5.ma j9 hO same_ (fun _ e => (mem_l (e)))
      have hC := hC.st j9 hO same_
      have hO := Own.join hO j9 Q7
      have hO := hO.perm (R := [vg0] ++ (([e9]) ++ (b9 ++ (([a2]) ++ (([a3]) ++ ([])))))) (by simp)
      have k0 : BoxV Q6 vg0 53 [(.slice va0x0 vn0x0 vc0x0), (.int .i64 r383.2.1), (.int .u64 r383.2.2)] := k0
      refine x_one (i := 1) (by kernel_rfl) ?_
      refine xk_val (b := true) (.slice a8 a9 b1) rfl  (y_load rfl ((box_load Ag25 Sz25 a0 [(.int .i64 arity)] [(.slice a8 a9 b1)] [] rfl rfl (fun _ => rfl)) _ (Chg.refl _ _))) rfl (fun h => nomatch h) ?_
      obtain ⟨x384, n7, hs⟩ := bind_some hs
      obtain ⟨C6, U0, C7, Q8, Q9, U1, U2⟩ := os_idx Sl25 Sz3 b2 n7
      refine x_p 6 (.pointer (some ⟨C6, 0 + Int.toNat 0 * 1, none⟩)) rfl (by kernel_rfl)  (fun _ => Q9 _ _ _ _ _ _ _ _ _ rfl rfl) (fun h => nomatch h) ?_
      refine x_one (i := 7) (by kernel_rfl) ?_
      have hO := hO.fr2
      obtain ⟨R0, R1, R2, k1, R3, o0⟩ := os_store (P := Try.prog) (c' := [(.int .i64 r383.1)]) C7 b2 Q8 (fun g hg => hO.inM g (os_block b2 g (by simpa using hg))) ⟨rfl, rfl⟩ List.nodup_nil (fun _ h => nomatch h) (fun _ h => .inl h)
      have l8 : ∀ q ∈ [C6], q ∈ b9 := fun q hq => os_block b2 q (by rw [C7]; exact hq)
      refine xk_skip (w' := R0) (b := true) rfl (ys_store rfl rfl (R2 _ _ rfl Sz3)) rfl (fun h => nomatch h) ?_
      have hl0x0 := hl0x0.mt k1 hO l8
      have k0 := k0.ap k1 hO l8 (mem_l (List.mem_singleton.2 rfl))
      have a1 := a1.ap k1 hO l8 (mem_r (mem_r (mem_r (mem_l (List.mem_singleton.2 rfl)))))
      have a0 := a0.ap k1 hO l8 (mem_r (mem_r (mem_l (List.mem_singleton.2 rfl))))
      have c5 := c5.ma k1 hO l8 (fun _ e => (mem_r (mem_l (e))))
      have hC := hC.st k1 hO l8
      have hO := hO.grow k1 (fun q hq => .inl ((R3 q hq).resolve_right (fun h => nomatch h))) (os_nodup o0) o0.fpl
      refine x_end (by kernel_rfl) ?_
      clear hS
      refine c_sr ?_
      refine pl_val (.agg #[(.int .i64 arity), (.slice a8 a9 b1)]) (y_load rfl ((box_load Ag27 Sz27 a0 [] [(.int .i64 arity), (.slice a8 a9 b1)] [] rfl rfl (fun h => nomatch h)) _ (Chg.refl _ _))) ?_
      obtain ⟨C8, R4, k2, v7⟩ := box_store (P := Try.prog) a1 [] [(.int .i64 0), (.slice none 0 0)] [] [(.int .i64 arity), (.slice a8 a9 b1)] rfl rfl (by intro u hu; simp only [List.mem_cons, List.not_mem_nil, or_false] at hu; rcases hu with rfl | rfl <;> rfl)
      refine pl_skip (w' := C8) (ys_store rfl rfl (R4 _ _ rfl Sz27)) ?_
      have hO := hO.fr4
      have hl0x0 := hl0x0.mt k2 hO same_
      have k0 := k0.ap k2 hO same_ (mem_r (mem_l (List.mem_singleton.2 rfl)))
      have a0 := a0.ap k2 hO same_ (mem_r (mem_r (mem_r (mem_l (List.mem_singleton.2 rfl)))))
      have o0 := o0.ma k2 hO same_ (fun _ e => (mem_l (e)))
      have c5 := c5.ma k2 hO same_ (fun _ e => (mem_r (mem_r (mem_l (e)))))
      have hC := hC.st k2 hO same_
      have hO := hO.ext k2
      have v7 : BoxV C8 a3 27 [(.int .i64 arity), (.slice a8 a9 b1)] := v7
      refine c_nil ?_
      refine wp_ret ?_
      cases hs
      have hO := hO.drop
      have hO := hO.fr2
      have hO := hO.drop
      have hO := hO.fr2
      have hO := hO.drop
      have hO := hO.fr1
      have hO := hO.fr1
      exact ⟨_, a3, a8, a9, b1, R1, fr_ovl 100 ⟨rfl, trivial⟩, v7, hC, o0, k0, hO.top⟩
   refine c_condF (congrArg Value.bool v0) ?_
   refine wp_skip ?_
   refine c_sr ?_
   refine pl_val (.agg #[(.int .i64 arity), (.slice a8 a9 b1)]) (y_load rfl ((box_load Ag27 Sz27 a0 [] [(.int .i64 arity), (.slice a8 a9 b1)] [] rfl rfl (fun h => nomatch h)) _ (Chg.refl _ _))) ?_
   obtain ⟨C9, R5, l9, v8⟩ := box_store (P := Try.prog) a1 [] [(.int .i64 0), (.slice none 0 0)] [] [(.int .i64 arity), (.slice a8 a9 b1)] rfl rfl (by intro u hu; simp only [List.mem_cons, List.not_mem_nil, or_false] at hu; rcases hu with rfl | rfl <;> rfl)
   refine pl_skip (w' := C9) (ys_store rfl rfl (R5 _ _ rfl Sz27)) ?_
   have hO := hO.fr3
   have hl0x0 := hl0x0.mt l9 hO same_
   have c8 := c8.ap l9 hO same_ (mem_l (List.mem_singleton.2 rfl))
   have a0 := a0.ap l9 hO same_ (mem_r (mem_r (mem_l (List.mem_singleton.2 rfl))))
   have b2 := b2.ma l9 hO same_ (fun _ e => (mem_r (mem_l (e))))
   have hC := hC.st l9 hO same_
   have hO := hO.ext l9
   have v8 : BoxV C9 a3 27 [(.int .i64 arity), (.slice a8 a9 b1)] := v8
   refine c_nil ?_
   refine wp_ret ?_
   cases hs
   have hO := hO.drop
   have hO := hO.fr2
   have hO := hO.drop
   have hO := hO.fr1
   exact ⟨_, a3, a8, a9, b1, b9, fr_ovl 100 ⟨rfl, trivial⟩, v8, hC, b2, c8, hO.top⟩

theorem Bd92 : Bodied Try.prog 92 := bodied Try.func92 (by kernel_rfl) rfl

def k_spec_l1Cur__op18 (M : Nat → Prop) (w0 : World) (vg0 : Nat) (va0x0 : Option Addr) (vn0x0 vc0x0 : Nat) (n : Int) (b0 : (List Int) × Int × Int) (r : (Int × (List Int)) × Int × Int) (a : Act) (w : World) : Prop :=
  ∃ (σ : Nat → Value) (rg4 : Nat) (ra0 : Option Addr) (rn0 rc0 : Nat) (rf0 : List Nat), a = fr 84 (ovl σ [(4, (.pointer (some ⟨rg4, 0, none⟩)))]) ∧ BoxV w rg4 27 [(.int .i64 r.1.1), (.slice ra0 rn0 rc0)] ∧ Chg ([vg0] ++ ([])) w0 w ∧ (RT.os 3 (RT.int .i64)).val M w (.slice ra0 rn0 rc0) r.1.2 rf0 ∧ BoxV w vg0 53 [(.slice va0x0 vn0x0 vc0x0), (.int .i64 r.2.1), (.int .u64 r.2.2)] ∧ Own (Nw w0 ([vg0] ++ ([]))) (fun _ => True) w (rf0 ++ ([vg0] ++ ([])))
def s_spec_l1Cur__op18 (n : Int) (b0 : (List Int) × Int × Int) : Option ((Int × (List Int)) × Int × Int) :=
  (s_spec_l6Size n).bind fun r5 =>
  (bif (!r5) then some ((0, []), b0.2.1, b0.2.2) else (s_spec_l1Cur__one 2 (b0.1, b0.2.1, b0.2.2)).bind fun r9 =>
  (s_spec_l18Op n r9.1).bind fun r11 =>
  (s_spec_l1Cur__pick 5 (b0.1, r9.2.1, r9.2.2)).bind fun r16 =>
  (bif (r16.1 == 0) then (s_spec_l1Cur__among ([3, 3, 2, 1]) (b0.1, r16.2.1, r16.2.2)).bind fun r21 =>
  (s_spec_l1Cur__op13 n r21.1 (b0.1, r21.2.1, r21.2.2)).bind fun r23 =>
  some ((r23.1.1, r23.1.2), r23.2.1, r23.2.2) else (bif (r16.1 == 1) then (iter (S := Int × Int × Int × (List Int)) (R := (Int × (List Int)) × Int × Int) (fun s171 =>
  (bif (decide (s171.1 < (s171.2.2.2.length : Int))) then (s_spec_l2Args n 3 s171.1).bind fun r181 =>
  ((idx r181 0).bind fun x187 =>
  (idx r181 1).bind fun x189 =>
  (bif (x187 != x189) then (idx r181 1).bind fun x192 =>
  (idx r181 2).bind fun x194 =>
  (bif (x192 != x194) then (idx r181 0).bind fun x197 =>
  (idx r181 2).bind fun x199 =>
  some (x197 != x199) else some false) else some false)).bind fun s183 =>
  (bif s183 then (s_spec_l1Cur__pick n (b0.1, s171.2.1, s171.2.2.1)).bind fun r204 =>
  (idx s171.2.2.2 s171.1).bind fun x205 =>
  some (.nx (w64 (s171.1 + 1), r204.2.1, r204.2.2, List.set s171.2.2.2 (Int.toNat s171.1) r204.1)) else some (.nx (w64 (s171.1 + 1), s171.2.1, s171.2.2.1, s171.2.2.2))) else some (.br (s171.1, s171.2.1, s171.2.2.1, s171.2.2.2)))) FU (0, r16.2.1, r16.2.2, r11.2)).bind fun o175 => after o175 (fun r_ => some r_) (fun s171 =>
  some ((r11.1, s171.2.2.2), s171.2.1, s171.2.2.1)) else (bif (r16.1 == 2) then (s_spec_l1Cur__pick (r11.2.length : Int) (b0.1, r16.2.1, r16.2.2)).bind fun r217 =>
  (s_spec_l1Cur__pick n (b0.1, r217.2.1, r217.2.2)).bind fun r219 =>
  (idx r11.2 r217.1).bind fun x220 =>
  some ((r11.1, List.set r11.2 (Int.toNat r217.1) r219.1), r219.2.1, r219.2.2) else some ((r11.1, r11.2), r16.2.1, r16.2.2)))))
set_option maxHeartbeats 4000000 in
theorem c_spec_l1Cur__op18 {M : Nat → Prop} {w : World} {vg0 : Nat} {va0x0 : Option Addr} {vn0x0 vc0x0 : Nat} (n : Int) (b0 : (List Int) × Int × Int) (hb0 : BoxV w vg0 53 [(.slice va0x0 vn0x0 vc0x0), (.int .i64 b0.2.1), (.int .u64 b0.2.2)]) (hl0x0 : (RT.rs (RT.int .u8)).val M w (.slice va0x0 vn0x0 vc0x0) b0.1 ([])) (hI : Own (Nw w ([vg0] ++ ([]))) M w ([vg0] ++ ([]))) (hM : ∀ g, w.heap.size ≤ g → M g) {r : (Int × (List Int)) × Int × Int} (hs : s_spec_l1Cur__op18 n b0 = some r) :
    Gives Try.prog 70 [(.pointer (some ⟨vg0, 0, none⟩)), (.int .i64 n)] w (fun v w' => ∃ (ra0 : Option Addr) (rn0 rc0 : Nat) (rf0 : List Nat), v = (.agg #[(.int .i64 r.1.1), (.slice ra0 rn0 rc0)]) ∧ Chg ([vg0] ++ ([])) w w' ∧ (RT.os 3 (RT.int .i64)).val M w' (.slice ra0 rn0 rc0) r.1.2 rf0 ∧ BoxV w' vg0 53 [(.slice va0x0 vn0x0 vc0x0), (.int .i64 r.2.1), (.int .u64 r.2.2)] ∧ Own (Nw w ([vg0] ++ ([]))) (fun _ => True) w' (rf0 ++ ([vg0] ++ ([])))) := by
 refine calls_fr Try.func70 rfl Try.ntmps70 (Nat.le_of_ble_eq_true rfl) ?_
 have hO := hI
 have hC := Chg.refl ([vg0] ++ ([])) w
 unfold s_spec_l1Cur__op18 at hs
 refine wp_mono (Q := KPost (k_spec_l1Cur__op18 M w vg0 va0x0 vn0x0 vc0x0 n b0 r)) ?_ (fun e a o6 h => ?_)
 rotate_left
 ·cases e
  case ret =>
   obtain ⟨σ, rg4, ra0, rn0, rc0, rf0, rfl, hbrg4, hrest⟩ := h
   exact ret1x Try.results70 (res_cell rfl (box_load Ag27 Sz27 hbrg4 [] _ [] rfl rfl (fun h => nomatch h))) ⟨ra0, rn0, rc0, rf0, rfl, hrest⟩
  all_goals exact (h : False).elim
 refine c_sr ?_
 obtain ⟨o7, a2, o8, k8, h7, a1⟩ := new_block w [(.int .i64 0), (.slice none 0 0)] 27
 refine pl_val (w' := o7) (.pointer (some ⟨a2, 0, none⟩)) (y_alloc (by rw [o8, k8]; kernel_rfl)) ?_
 have hl0x0 := hl0x0.ext h7
 have hb0 := hb0.cn h7
 have hC := hC.ext h7
 have hO := hO.new1 h7 k8 a1.lt
 refine c_nil ?_
 refine c_seq ?_
 refine c_sr ?_
 refine pl_val (.int .i64 n) (y_move rfl) ?_
 obtain ⟨r5, o9, hs⟩ := bind_some hs
 refine pl_call Bd34 rfl (c_spec_l6Size (M := M) n  hO.fut o9) ?_
 rintro _ A5 ⟨rfl, g3⟩
 have hl0x0 := hl0x0.ext g3
 have hb0 := hb0.cn g3
 have a1 := a1.cn g3
 have hC := hC.ext g3
 have hO := hO.ext g3
 refine pl_val (.bool (!r5)) (y_not rfl) ?_
 refine c_nil ?_
 rcases bif_some hs with ⟨i5, hs⟩ | ⟨i5, hs⟩
 ·refine c_condT (congrArg Value.bool i5) ?_
  refine c_sr ?_
  refine pl_val (.agg #[(.int .i64 0), (.slice none 0 0)]) (y_build rfl (by kernel_rfl)) ?_
  obtain ⟨k9, p0, h8, i6⟩ := box_store (P := Try.prog) a1 [] [(.int .i64 0), (.slice none 0 0)] [] [(.int .i64 0), (.slice none 0 0)] rfl rfl (by intro u hu; simp only [List.mem_cons, List.not_mem_nil, or_false] at hu; rcases hu with rfl | rfl <;> rfl)
  refine pl_skip (w' := k9) (ys_store rfl rfl (p0 _ _ rfl Sz27)) ?_
  have hl0x0 := hl0x0.mt h8 hO same_
  have hb0 := hb0.ap h8 hO same_ (mem_l (List.mem_singleton.2 rfl))
  have hC := hC.st h8 hO same_
  have hO := hO.ext h8
  have i6 : BoxV k9 a2 27 [(.int .i64 0), (.slice none 0 0)] := i6
  refine c_nil ?_
  refine wp_ret ?_
  cases hs
  have hO := hO.drop
  have hO := hO.nil
  exact ⟨_, a2, none, 0, 0, [], fr_ovl 84 ⟨rfl, trivial⟩, i6, hC, os_nil, hb0, hO.top⟩
 refine c_condF (congrArg Value.bool i5) ?_
 refine wp_skip ?_
 refine c_sr ?_
 refine pl_val (.int .i64 n) (y_move rfl) ?_
 refine pl_val (.pointer (some ⟨vg0, 0, none⟩)) (y_move rfl) ?_
 have hO := hO.fr1
 have p1 := hO
 have l0 := Own.lend (F := (([vg0]) ++ ([]))) (R := ([a2]) ++ ([])) (Own.perm (p1) (by simp))
 obtain ⟨r9, p2, hs⟩ := bind_some hs
 refine pl_call Bd75 rfl (c_spec_l1Cur__one (M := M) 2 (b0.1, b0.2.1, b0.2.2) (show BoxV _ vg0 53 [(.slice va0x0 vn0x0 vc0x0), (.int .i64 b0.2.1), (.int .u64 b0.2.2)] from hb0) hl0x0 l0 l0.fut p2) ?_
 rintro _ p3 ⟨rfl, h9, b9, p4⟩
 have hO := hO.perm (R := (([vg0]) ++ ([])) ++ (([a2]) ++ ([]))) (by simp)
 have hl0x0 := hl0x0.mt h9 hO same_
 have a1 := a1.ap h9 hO same_ (mem_l (List.mem_singleton.2 rfl))
 have hC := hC.st h9 hO same_
 have hO := Own.join hO h9 p4
 have hO := hO.perm (R := [vg0] ++ (([a2]) ++ ([]))) (by simp)
 have b9 : BoxV p3 vg0 53 [(.slice va0x0 vn0x0 vc0x0), (.int .i64 r9.2.1), (.int .u64 r9.2.2)] := b9
 obtain ⟨r11, p5, hs⟩ := bind_some hs
 refine pl_call Bd35 rfl (c_spec_l18Op (M := M) n r9.1  hO.fut p5) ?_
 rintro _ p6 ⟨a3, a4, a5, a8, rfl, g4, a6, p7⟩
 have hl0x0 := hl0x0.ext g4
 have b9 := b9.cn g4
 have a1 := a1.cn g4
 have hC := hC.ext g4
 have hO := Own.join0 hO g4 p7
 have hO := hO.perm (R := a8 ++ (([vg0]) ++ (([a2]) ++ ([])))) (by simp)
 obtain ⟨p8, a7, p9, l1, e5, l2⟩ := new_block p6 [(.int .i64 0), (.slice none 0 0)] 27
 refine pl_val (w' := p8) (.pointer (some ⟨a7, 0, none⟩)) (y_alloc (by rw [p9, l1]; kernel_rfl)) ?_
 have hl0x0 := hl0x0.ext e5
 have b9 := b9.cn e5
 have a1 := a1.cn e5
 have a6 := a6.ext e5
 have hC := hC.ext e5
 have hO := hO.new1 e5 l1 l2.lt
 obtain ⟨l3, q0, e6, a0⟩ := box_store (P := Try.prog) l2 [] [(.int .i64 0), (.slice none 0 0)] [] [(.int .i64 r11.1), (.slice a3 a4 a5)] rfl rfl (by intro u hu; simp only [List.mem_cons, List.not_mem_nil, or_false] at hu; rcases hu with rfl | rfl <;> rfl)
 refine pl_skip (w' := l3) (ys_store rfl rfl (q0 _ _ rfl Sz27)) ?_
 have hl0x0 := hl0x0.mt e6 hO same_
 have b9 := b9.ap e6 hO same_ (mem_r (mem_l (List.mem_singleton.2 rfl)))
 have a1 := a1.ap e6 hO same_ (mem_r (mem_r (mem_l (List.mem_singleton.2 rfl))))
 have a6 := a6.ma e6 hO same_ (fun _ e => (mem_l (e)))
 have hC := hC.st e6 hO same_
 have hO := hO.ext e6
 have a0 : BoxV l3 a7 27 [(.int .i64 r11.1), (.slice a3 a4 a5)] := a0
 refine c_nil ?_
 refine c_seq ?_
 refine c_sr ?_
 refine pl_val (.pointer (some ⟨vg0, 0, none⟩)) (y_move rfl) ?_
 have hO := hO.fr2
 have q1 := hO
 have l4 := Own.lend (F := (([vg0]) ++ ([]))) (R := ([a7]) ++ (a8 ++ (([a2]) ++ ([])))) (Own.perm (q1) (by simp))
 obtain ⟨r16, q2, hs⟩ := bind_some hs
 refine pl_call Bd62 rfl (c_spec_l1Cur__pick (M := M) 5 (b0.1, r9.2.1, r9.2.2) (show BoxV _ vg0 53 [(.slice va0x0 vn0x0 vc0x0), (.int .i64 r9.2.1), (.int .u64 r9.2.2)] from b9) hl0x0 l4 l4.fut q2) ?_
 rintro _ i0 ⟨rfl, e7, a9, q3⟩
 have hO := hO.perm (R := (([vg0]) ++ ([])) ++ (([a7]) ++ (a8 ++ (([a2]) ++ ([]))))) (by simp)
 have hl0x0 := hl0x0.mt e7 hO same_
 have a1 := a1.ap e7 hO same_ (mem_r (mem_r (mem_l (List.mem_singleton.2 rfl))))
 have a6 := a6.ma e7 hO same_ (fun _ e => (mem_r (mem_l (e))))
 have a0 := a0.ap e7 hO same_ (mem_l (List.mem_singleton.2 rfl))
 have hC := hC.st e7 hO same_
 have hO := Own.join hO e7 q3
 have hO := hO.perm (R := [vg0] ++ (([a7]) ++ (a8 ++ (([a2]) ++ ([]))))) (by simp)
 have a9 : BoxV i0 vg0 53 [(.slice va0x0 vn0x0 vc0x0), (.int .i64 r16.2.1), (.int .u64 r16.2.2)] := a9
 refine c_nil ?_
 refine wp_block ?_
 refine c_sr ?_
 refine pl_val (.bool (r16.1 == 0)) (y_eql rfl rfl) ?_
 refine pl_val (.bool (r16.1 == 0)) (y_assign rfl) ?_
 refine c_nil ?_
 rcases bif_some hs with ⟨i7, hs⟩ | ⟨i7, hs⟩
 ·refine c_condT (congrArg Value.bool i7) ?_
  refine c_region ?_
  refine pl_val (.pointer (some ⟨vg0, 0, none⟩)) (y_move rfl) ?_
  refine pl_val (.int .i64 n) (y_move rfl) ?_
  refine pl_val (.pointer (some ⟨vg0, 0, none⟩)) (y_move rfl) ?_
  obtain ⟨l5, c0, q4, l6, c6, l7⟩ := new_block i0 [(.int .i64 3), (.int .i64 3), (.int .i64 2), (.int .i64 1)] 3
  refine pl_val (w' := l5) (.slice (some ⟨c0, 0, none⟩) 4 4) (y_bslice rfl (by rw [q4, l6]; kernel_rfl)) ?_
  have hl0x0 := hl0x0.ext c6
  have a9 := a9.cn c6
  have a1 := a1.cn c6
  have a6 := a6.ext c6
  have a0 := a0.cn c6
  have hC := hC.ext c6
  have hO := hO.new1 c6 l6 l7.lt
  have b7 := os_of_box (r := (RT.int .i64)) (M := M) (css := [[(.int .i64 3)], [(.int .i64 3)], [(.int .i64 2)], [(.int .i64 1)]]) (fps := [([] : List Nat), ([] : List Nat), ([] : List Nat), ([] : List Nat)]) (xs := ([3, 3, 2, 1] : List Int)) l7 ⟨⟨rfl, rfl⟩, ⟨⟨rfl, rfl⟩, ⟨⟨rfl, rfl⟩, ⟨⟨rfl, rfl⟩, trivial⟩⟩⟩⟩ (Nat.le_of_ble_eq_true rfl) (List.nodup_cons.2 ⟨(fun h => nomatch h), List.nodup_nil⟩)
  have b7 : (RT.os 3 (RT.int .i64)).val M l5 (.slice (some ⟨c0, 0, none⟩) 4 4) [3, 3, 2, 1] [c0] := b7
  have hO := hO.fr1
  have i9 := hO
  have i9 := i9.fr1
  have l8 := Own.lend (F := (([vg0]) ++ ([]))) (R := ([a7]) ++ (a8 ++ (([a2]) ++ ([])))) (Own.perm (i9.less) (by simp))
  obtain ⟨r21, q5, hs⟩ := bind_some hs
  refine pl_call Bd61 rfl (c_spec_l1Cur__among (M := (Less M ([c0]))) ([3, 3, 2, 1]) (b0.1, r16.2.1, r16.2.2) (((Frz.os Frz.int)).val b7 Less.sub Less.not) (show BoxV _ vg0 53 [(.slice va0x0 vn0x0 vc0x0), (.int .i64 r16.2.1), (.int .u64 r16.2.2)] from a9) (hl0x0.sub Less.sub) l8 l8.fut q5) ?_
  rintro _ q6 ⟨rfl, c7, j0, q7⟩
  have hO := hO.fr1
  have hO := hO.fr1
  have hO := hO.perm (R := (([vg0]) ++ ([])) ++ (([c0]) ++ (([a7]) ++ (a8 ++ (([a2]) ++ ([])))))) (by simp)
  have hl0x0 := hl0x0.mt c7 hO same_
  have a1 := a1.ap c7 hO same_ (mem_r (mem_r (mem_r (mem_l (List.mem_singleton.2 rfl)))))
  have a6 := a6.ma c7 hO same_ (fun _ e => (mem_r (mem_r (mem_l (e)))))
  have a0 := a0.ap c7 hO same_ (mem_r (mem_l (List.mem_singleton.2 rfl)))
  have b7 := b7.ma c7 hO same_ (fun _ e => (mem_l (e)))
  have hC := hC.st c7 hO same_
  have hO := Own.join hO c7 q7
  have hO := hO.perm (R := [vg0] ++ (([c0]) ++ (([a7]) ++ (a8 ++ (([a2]) ++ ([])))))) (by simp)
  have j0 : BoxV q6 vg0 53 [(.slice va0x0 vn0x0 vc0x0), (.int .i64 r21.2.1), (.int .u64 r21.2.2)] := j0
  have q8 := hO
  have l9 := Own.lend (F := (([vg0]) ++ ([]))) (R := ([c0]) ++ (([a7]) ++ (a8 ++ (([a2]) ++ ([]))))) (Own.perm (q8) (by simp))
  obtain ⟨r23, q9, hs⟩ := bind_some hs
  refine pl_call Bd92 rfl (c_spec_l1Cur__op13 (M := M) n r21.1 (b0.1, r21.2.1, r21.2.2) (show BoxV _ vg0 53 [(.slice va0x0 vn0x0 vc0x0), (.int .i64 r21.2.1), (.int .u64 r21.2.2)] from j0) hl0x0 l9 l9.fut q9) ?_
  rintro _ r0 ⟨c8, c9, d0, m0, rfl, d1, g5, d2, r1⟩
  have hO := hO.perm (R := (([vg0]) ++ ([])) ++ (([c0]) ++ (([a7]) ++ (a8 ++ (([a2]) ++ ([])))))) (by simp)
  have hl0x0 := hl0x0.mt d1 hO same_
  have a1 := a1.ap d1 hO same_ (mem_r (mem_r (mem_r (mem_l (List.mem_singleton.2 rfl)))))
  have a6 := a6.ma d1 hO same_ (fun _ e => (mem_r (mem_r (mem_l (e)))))
  have a0 := a0.ap d1 hO same_ (mem_r (mem_l (List.mem_singleton.2 rfl)))
  have b7 := b7.ma d1 hO same_ (fun _ e => (mem_l (e)))
  have hC := hC.st d1 hO same_
  have hO := Own.join hO d1 r1
  have hO := hO.perm (R := m0 ++ ([vg0] ++ (([c0]) ++ (([a7]) ++ (a8 ++ (([a2]) ++ ([]))))))) (by simp)
  have d2 : BoxV r0 vg0 53 [(.slice va0x0 vn0x0 vc0x0), (.int .i64 r23.2.1), (.int .u64 r23.2.2)] := d2
  obtain ⟨m1, r2, c2, g6⟩ := box_store (P := Try.prog) a0 [] [(.int .i64 r11.1), (.slice a3 a4 a5)] [] [(.int .i64 r23.1.1), (.slice c8 c9 d0)] rfl rfl (by intro u hu; simp only [List.mem_cons, List.not_mem_nil, or_false] at hu; rcases hu with rfl | rfl <;> rfl)
  refine pl_skip (w' := m1) (ys_store rfl rfl (r2 _ _ rfl Sz27)) ?_
  have hO := hO.fr3
  have hl0x0 := hl0x0.mt c2 hO same_
  have d2 := d2.ap c2 hO same_ (mem_r (mem_l (List.mem_singleton.2 rfl)))
  have a1 := a1.ap c2 hO same_ (mem_r (mem_r (mem_r (mem_r (mem_l (List.mem_singleton.2 rfl))))))
  have a6 := a6.ma c2 hO same_ (fun _ e => (mem_r (mem_r (mem_r (mem_l (e))))))
  have b7 := b7.ma c2 hO same_ (fun _ e => (mem_r (mem_r (mem_l (e)))))
  have g5 := g5.ma c2 hO same_ (fun _ e => (mem_l (e)))
  have hC := hC.st c2 hO same_
  have hO := hO.ext c2
  have g6 : BoxV m1 a7 27 [(.int .i64 r23.1.1), (.slice c8 c9 d0)] := g6
  refine c_nil ?_
  refine c_sr ?_
  refine pl_val (.agg #[(.int .i64 r23.1.1), (.slice c8 c9 d0)]) (y_load rfl ((box_load Ag27 Sz27 g6 [] [(.int .i64 r23.1.1), (.slice c8 c9 d0)] [] rfl rfl (fun h => nomatch h)) _ (Chg.refl _ _))) ?_
  obtain ⟨m2, r3, c3, j1⟩ := box_store (P := Try.prog) a1 [] [(.int .i64 0), (.slice none 0 0)] [] [(.int .i64 r23.1.1), (.slice c8 c9 d0)] rfl rfl (by intro u hu; simp only [List.mem_cons, List.not_mem_nil, or_false] at hu; rcases hu with rfl | rfl <;> rfl)
  refine pl_skip (w' := m2) (ys_store rfl rfl (r3 _ _ rfl Sz27)) ?_
  have hO := hO.fr5
  have hl0x0 := hl0x0.mt c3 hO same_
  have d2 := d2.ap c3 hO same_ (mem_r (mem_r (mem_l (List.mem_singleton.2 rfl))))
  have a6 := a6.ma c3 hO same_ (fun _ e => (mem_r (mem_r (mem_r (mem_r (mem_l (e)))))))
  have g6 := g6.ap c3 hO same_ (mem_l (List.mem_singleton.2 rfl))
  have b7 := b7.ma c3 hO same_ (fun _ e => (mem_r (mem_r (mem_r (mem_l (e))))))
  have g5 := g5.ma c3 hO same_ (fun _ e => (mem_r (mem_l (e))))
  have hC := hC.st c3 hO same_
  have hO := hO.ext c3
  have j1 : BoxV m2 a2 27 [(.int .i64 r23.1.1), (.slice c8 c9 d0)] := j1
  refine c_nil ?_
  refine wp_ret ?_
  cases hs
  have hO := hO.drop
  have hO := hO.drop
  have hO := hO.fr2
  have hO := hO.drop
  have hO := hO.fr2
  have hO := hO.drop
  have hO := hO.fr1
  have hO := hO.fr1
  exact ⟨_, a2, c8, c9, d0, m0, fr_ovl 84 ⟨rfl, trivial⟩, j1, hC, g5, d2, hO.top⟩
 refine c_condF (congrArg Value.bool i7) ?_
 refine c_sr ?_
 refine pl_val (.bool (r16.1 == 1)) (y_eql rfl rfl) ?_
 refine pl_val (.bool (r16.1 == 1)) (y_assign rfl) ?_
 refine c_nil ?_
 rcases bif_some hs with ⟨j2, hs⟩ | ⟨j2, hs⟩
 ·refine c_condT (congrArg Value.bool j2) ?_
  refine c_sr ?_
  refine pl_val (.int .i64 0) (y_assign rfl) ?_
  refine c_nil ?_
  obtain ⟨o175, r4, hs⟩ := bind_some hs
  refine wp_block ?_
  refine wp_iter (id := 1) (I := fun s171 a b3 => ∃ (σ : Nat → Value) (b6 : List Nat), a = fr 84 (ovl σ [(0, (.pointer (some ⟨vg0, 0, none⟩))), (1, (.int .i64 n)), (4, (.pointer (some ⟨a2, 0, none⟩))), (5, (.pointer (some ⟨a7, 0, none⟩))), (6, (.int .i64 s171.1))]) ∧ Chg ([vg0] ++ ([])) w b3 ∧ Own (Nw w ([vg0] ++ ([]))) M b3 (([vg0]) ++ (([a7]) ++ (b6 ++ (([a2]) ++ [])))) ∧ (RT.rs (RT.int .u8)).val M b3 (.slice va0x0 vn0x0 vc0x0) b0.1 ([]) ∧ BoxV b3 vg0 53 [(.slice va0x0 vn0x0 vc0x0), (.int .i64 s171.2.1), (.int .u64 s171.2.2.1)] ∧ BoxV b3 a2 27 [(.int .i64 0), (.slice none 0 0)] ∧ (RT.os 3 (RT.int .i64)).val M b3 (.slice a3 a4 a5) s171.2.2.2 b6 ∧ BoxV b3 a7 27 [(.int .i64 r11.1), (.slice a3 a4 a5)]) (J := fun s171 a b3 => ∃ (σ : Nat → Value) (i1 : List Nat), a = fr 84 (ovl σ [(4, (.pointer (some ⟨a2, 0, none⟩))), (5, (.pointer (some ⟨a7, 0, none⟩)))]) ∧ Chg ([vg0] ++ ([])) w b3 ∧ Own (Nw w ([vg0] ++ ([]))) M b3 (([vg0]) ++ (([a7]) ++ (i1 ++ (([a2]) ++ [])))) ∧ (RT.rs (RT.int .u8)).val M b3 (.slice va0x0 vn0x0 vc0x0) b0.1 ([]) ∧ BoxV b3 vg0 53 [(.slice va0x0 vn0x0 vc0x0), (.int .i64 s171.2.1), (.int .u64 s171.2.2.1)] ∧ BoxV b3 a2 27 [(.int .i64 0), (.slice none 0 0)] ∧ (RT.os 3 (RT.int .i64)).val M b3 (.slice a3 a4 a5) s171.2.2.2 i1 ∧ BoxV b3 a7 27 [(.int .i64 r11.1), (.slice a3 a4 a5)]) (K := (k_spec_l1Cur__op18 M w vg0 va0x0 vn0x0 vc0x0 n b0)) ?_ FU (0, r16.2.1, r16.2.2, r11.2) o175 _ _ ?_ r4 ?_
  ·rintro s171 o175 a b3 ⟨σ, b6, rfl, hC, hO, hl0x0, a9, a1, b1, a0⟩ hs
   refine c_seq ?_
   refine c_sr ?_
   refine pl_val (.int .i64 s171.1) (y_move rfl) ?_
   refine pl_val (.pointer (some ⟨a7, 1, none⟩)) (y_faddr rfl Fa27x1) ?_
   refine pl_val (.slice a3 a4 a5) (y_load rfl ((box_load Ag25 Sz25 a0 [(.int .i64 r11.1)] [(.slice a3 a4 a5)] [] rfl rfl (fun _ => rfl)) _ (Chg.refl _ _))) ?_
   refine pl_val (.int .i64 (s171.2.2.2.length : Int)) (y_len' Sl25 (os_len b1) rfl) ?_
   refine pl_val (.bool (decide (s171.1 < (s171.2.2.2.length : Int)))) (y_lss rfl rfl) ?_
   refine c_nil ?_
   rcases bif_some hs with ⟨j3, hs⟩ | ⟨j3, hs⟩
   ·refine c_condT (congrArg Value.bool j3) ?_
    refine wp_skip ?_
    refine c_seq ?_
    refine wp_block ?_
    refine c_sr ?_
    refine pl_val (.int .i64 n) (y_move rfl) ?_
    refine pl_val (.int .i64 s171.1) (y_move rfl) ?_
    obtain ⟨r181, r6, hs⟩ := bind_some hs
    refine pl_call Bd65 rfl (c_spec_l2Args (M := M) n 3 s171.1  hO.fut r6) ?_
    rintro _ i2 ⟨d3, d4, d5, d6, rfl, d7, b2, r7⟩
    have hl0x0 := hl0x0.ext d7
    have a9 := a9.cn d7
    have a1 := a1.cn d7
    have b1 := b1.ext d7
    have a0 := a0.cn d7
    have hC := hC.ext d7
    have hO := Own.join0 hO d7 r7
    have hO := hO.perm (R := d6 ++ (([vg0]) ++ (([a7]) ++ (b6 ++ (([a2]) ++ ([])))))) (by simp)
    refine pl_val (.slice d3 d4 d5) (y_assign rfl) ?_
    refine c_nil ?_
    refine c_seq ?_
    obtain ⟨s183, r8, hs⟩ := bind_some hs
    refine c_mid (I := fun a i3 => ∃ (σ : Nat → Value), a = fr 84 (ovl σ [(0, (.pointer (some ⟨vg0, 0, none⟩))), (1, (.int .i64 n)), (4, (.pointer (some ⟨a2, 0, none⟩))), (5, (.pointer (some ⟨a7, 0, none⟩))), (6, (.int .i64 s171.1)), (62, (.bool s183))]) ∧ Chg [] i2 i3) ?_ ?_
    ·replace hs := r8
     have hMid := Chg.refl [] i2
     refine x_start [] Mx rfl ?_
     have b8 := Chg.drew i2
     generalize World.drew i2 = s0 at b8 ⊢
     have hl0x0 := hl0x0.ext b8
     have a9 := a9.cn b8
     have a1 := a1.cn b8
     have b1 := b1.ext b8
     have a0 := a0.cn b8
     have b2 := b2.ext b8
     have hMid := hMid.ext b8
     have hC := hC.ext b8
     have hO := hO.ext b8
     have hS := Chg.refl [] s0
     refine x_p 0 (.slice d3 d4 d5) rfl (by kernel_rfl)  (fun _ => y_move rfl) (fun _ => hS) ?_
     obtain ⟨x187, s1, hs⟩ := bind_some hs
     obtain ⟨s2, A6, A7, A8, s3, s4, A9⟩ := os_idx Sl25 Sz3 b2 s1
     refine x_p 1 (.pointer (some ⟨s2, 0 + Int.toNat 0 * 1, none⟩)) rfl (by kernel_rfl)  (fun _ => s3 _ _ _ _ _ _ _ _ _ rfl rfl) (fun _ => hS) ?_
     refine x_l 2 (.int .i64 x187) rfl (by kernel_rfl)  (fun w' hw' => y_load rfl ((at_load_int Ag3 Sz3 s4) w' hw')) hS ?_
     refine x_p 3 (.slice d3 d4 d5) rfl (by kernel_rfl)  (fun _ => y_move rfl) (fun _ => hS) ?_
     obtain ⟨x189, s5, hs⟩ := bind_some hs
     obtain ⟨s6, B0, B1, B2, s7, s8, B3⟩ := os_idx Sl25 Sz3 b2 s5
     refine x_p 4 (.pointer (some ⟨s6, 0 + Int.toNat 1 * 1, none⟩)) rfl (by kernel_rfl)  (fun _ => s7 _ _ _ _ _ _ _ _ _ rfl rfl) (fun _ => hS) ?_
     refine x_l 5 (.int .i64 x189) rfl (by kernel_rfl)  (fun w' hw' => y_load rfl ((at_load_int Ag3 Sz3 s8) w' hw')) hS ?_
     refine x_p 6 (.bool (x187 != x189)) rfl (by kernel_rfl)  (fun _ => y_neq rfl rfl) (fun _ => hS) ?_
     refine x_p 7 (.bool (x187 != x189)) rfl (by kernel_rfl)  (fun _ => y_move rfl) (fun _ => hS) ?_
     rcases bif_some hs with ⟨b4, hs⟩ | ⟨b4, hs⟩
     ·skip
      refine x_py 8 (.slice d3 d4 d5) rfl (by kernel_rfl) (tg := 45) (by kernel_rfl) (congrArg Value.bool b4) (fun _ => y_move rfl) (fun _ => hS) ?_
      obtain ⟨x192, s9, hs⟩ := bind_some hs
      obtain ⟨t0, B4, B5, B6, t1, t2, B7⟩ := os_idx Sl25 Sz3 b2 s9
      refine x_py 9 (.pointer (some ⟨t0, 0 + Int.toNat 1 * 1, none⟩)) rfl (by kernel_rfl) (tg := 45) (by kernel_rfl) (congrArg Value.bool b4) (fun _ => t1 _ _ _ _ _ _ _ _ _ rfl rfl) (fun _ => hS) ?_
      refine x_ly 10 (.int .i64 x192) rfl (by kernel_rfl) (tg := 45) (by kernel_rfl) (congrArg Value.bool b4) (fun w' hw' => y_load rfl ((at_load_int Ag3 Sz3 t2) w' hw')) hS ?_
      refine x_py 11 (.slice d3 d4 d5) rfl (by kernel_rfl) (tg := 45) (by kernel_rfl) (congrArg Value.bool b4) (fun _ => y_move rfl) (fun _ => hS) ?_
      obtain ⟨x194, t3, hs⟩ := bind_some hs
      obtain ⟨t4, B8, B9, C0, t5, t6, C1⟩ := os_idx Sl25 Sz3 b2 t3
      refine x_py 12 (.pointer (some ⟨t4, 0 + Int.toNat 2 * 1, none⟩)) rfl (by kernel_rfl) (tg := 45) (by kernel_rfl) (congrArg Value.bool b4) (fun _ => t5 _ _ _ _ _ _ _ _ _ rfl rfl) (fun _ => hS) ?_
      refine x_ly 13 (.int .i64 x194) rfl (by kernel_rfl) (tg := 45) (by kernel_rfl) (congrArg Value.bool b4) (fun w' hw' => y_load rfl ((at_load_int Ag3 Sz3 t6) w' hw')) hS ?_
      refine x_py 14 (.bool (x192 != x194)) rfl (by kernel_rfl) (tg := 45) (by kernel_rfl) (congrArg Value.bool b4) (fun _ => y_neq rfl rfl) (fun _ => hS) ?_
      refine x_p 15 (.bool (x192 != x194)) rfl (by kernel_rfl)  (fun _ => y_pick_t (congrArg Value.bool b4) rfl) (fun _ => hS) ?_
      refine x_p 16 (.bool (x192 != x194)) rfl (by kernel_rfl)  (fun _ => y_move rfl) (fun _ => hS) ?_
      rcases bif_some hs with ⟨b5, hs⟩ | ⟨b5, hs⟩
      ·skip
       refine x_py 17 (.slice d3 d4 d5) rfl (by kernel_rfl) (tg := 54) (by kernel_rfl) (congrArg Value.bool b5) (fun _ => y_move rfl) (fun _ => hS) ?_
       obtain ⟨x197, t7, hs⟩ := bind_some hs
       obtain ⟨t8, C2, C3, C4, t9, u0, C5⟩ := os_idx Sl25 Sz3 b2 t7
       refine x_py 18 (.pointer (some ⟨t8, 0 + Int.toNat 0 * 1, none⟩)) rfl (by kernel_rfl) (tg := 54) (by kernel_rfl) (congrArg Value.bool b5) (fun _ => t9 _ _ _ _ _ _ _ _ _ rfl rfl) (fun _ => hS) ?_
       refine x_ly 19 (.int .i64 x197) rfl (by kernel_rfl) (tg := 54) (by kernel_rfl) (congrArg Value.bool b5) (fun w' hw' => y_load rfl ((at_load_int Ag3 Sz3 u0) w' hw')) hS ?_
       refine x_py 20 (.slice d3 d4 d5) rfl (by kernel_rfl) (tg := 54) (by kernel_rfl) (congrArg Value.bool b5) (fun _ => y_move rfl) (fun _ => hS) ?_
       obtain ⟨x199, u1, hs⟩ := bind_some hs
       obtain ⟨u2, C6, C7, C8, u3, u4, C9⟩ := os_idx Sl25 Sz3 b2 u1
       refine x_py 21 (.pointer (some ⟨u2, 0 + Int.toNat 2 * 1, none⟩)) rfl (by kernel_rfl) (tg := 54) (by kernel_rfl) (congrArg Value.bool b5) (fun _ => u3 _ _ _ _ _ _ _ _ _ rfl rfl) (fun _ => hS) ?_
       refine x_ly 22 (.int .i64 x199) rfl (by kernel_rfl) (tg := 54) (by kernel_rfl) (congrArg Value.bool b5) (fun w' hw' => y_load rfl ((at_load_int Ag3 Sz3 u4) w' hw')) hS ?_
       refine x_py 23 (.bool (x197 != x199)) rfl (by kernel_rfl) (tg := 54) (by kernel_rfl) (congrArg Value.bool b5) (fun _ => y_neq rfl rfl) (fun _ => hS) ?_
       refine x_p 24 (.bool (x197 != x199)) rfl (by kernel_rfl)  (fun _ => y_pick_t (congrArg Value.bool b5) rfl) (fun _ => hS) ?_
       refine x_end (by kernel_rfl) ?_
       clear hS
       cases hs
       exact ⟨_, fr_ovl 84 ⟨rfl, rfl, rfl, rfl, rfl, rfl, trivial⟩, hMid⟩
      refine x_pn 17 rfl (by kernel_rfl) (tg := 54) (by kernel_rfl) (congrArg Value.bool b5) (fun _ => hS) ?_
      refine x_pn 18 rfl (by kernel_rfl) (tg := 54) (by kernel_rfl) (congrArg Value.bool b5) (fun _ => hS) ?_
      refine x_pn 19 rfl (by kernel_rfl) (tg := 54) (by kernel_rfl) (congrArg Value.bool b5) (fun _ => hS) ?_
      refine x_pn 20 rfl (by kernel_rfl) (tg := 54) (by kernel_rfl) (congrArg Value.bool b5) (fun _ => hS) ?_
      refine x_pn 21 rfl (by kernel_rfl) (tg := 54) (by kernel_rfl) (congrArg Value.bool b5) (fun _ => hS) ?_
      refine x_pn 22 rfl (by kernel_rfl) (tg := 54) (by kernel_rfl) (congrArg Value.bool b5) (fun _ => hS) ?_
      refine x_pn 23 rfl (by kernel_rfl) (tg := 54) (by kernel_rfl) (congrArg Value.bool b5) (fun _ => hS) ?_
      refine x_p 24 (.bool false) rfl (by kernel_rfl)  (fun _ => y_pick_f (congrArg Value.bool b5) rfl) (fun _ => hS) ?_
      refine x_end (by kernel_rfl) ?_
      clear hS
      cases hs
      exact ⟨_, fr_ovl 84 ⟨rfl, rfl, rfl, rfl, rfl, rfl, trivial⟩, hMid⟩
     refine x_pn 8 rfl (by kernel_rfl) (tg := 45) (by kernel_rfl) (congrArg Value.bool b4) (fun _ => hS) ?_
     refine x_pn 9 rfl (by kernel_rfl) (tg := 45) (by kernel_rfl) (congrArg Value.bool b4) (fun _ => hS) ?_
     refine x_pn 10 rfl (by kernel_rfl) (tg := 45) (by kernel_rfl) (congrArg Value.bool b4) (fun _ => hS) ?_
     refine x_pn 11 rfl (by kernel_rfl) (tg := 45) (by kernel_rfl) (congrArg Value.bool b4) (fun _ => hS) ?_
     refine x_pn 12 rfl (by kernel_rfl) (tg := 45) (by kernel_rfl) (congrArg Value.bool b4) (fun _ => hS) ?_
     refine x_pn 13 rfl (by kernel_rfl) (tg := 45) (by kernel_rfl) (congrArg Value.bool b4) (fun _ => hS) ?_
     refine x_pn 14 rfl (by kernel_rfl) (tg := 45) (by kernel_rfl) (congrArg Value.bool b4) (fun _ => hS) ?_
     refine x_p 15 (.bool false) rfl (by kernel_rfl)  (fun _ => y_pick_f (congrArg Value.bool b4) rfl) (fun _ => hS) ?_
     refine x_p 16 (.bool false) rfl (by kernel_rfl)  (fun _ => y_move rfl) (fun _ => hS) ?_
     refine x_pn 17 rfl (by kernel_rfl) (tg := 54) (by kernel_rfl) (by rfl) (fun _ => hS) ?_
     refine x_pn 18 rfl (by kernel_rfl) (tg := 54) (by kernel_rfl) (by rfl) (fun _ => hS) ?_
     refine x_pn 19 rfl (by kernel_rfl) (tg := 54) (by kernel_rfl) (by rfl) (fun _ => hS) ?_
     refine x_pn 20 rfl (by kernel_rfl) (tg := 54) (by kernel_rfl) (by rfl) (fun _ => hS) ?_
     refine x_pn 21 rfl (by kernel_rfl) (tg := 54) (by kernel_rfl) (by rfl) (fun _ => hS) ?_
     refine x_pn 22 rfl (by kernel_rfl) (tg := 54) (by kernel_rfl) (by rfl) (fun _ => hS) ?_
     refine x_pn 23 rfl (by kernel_rfl) (tg := 54) (by kernel_rfl) (by rfl) (fun _ => hS) ?_
     refine x_p 24 (.bool false) rfl (by kernel_rfl)  (fun _ => y_pick_f (by rfl) rfl) (fun _ => hS) ?_
     refine x_end (by kernel_rfl) ?_
     clear hS
     cases hs
     exact ⟨_, fr_ovl 84 ⟨rfl, rfl, rfl, rfl, rfl, rfl, trivial⟩, hMid⟩
    rintro m3 i3 ⟨σ, rfl, c4⟩
    have hl0x0 := hl0x0.ext c4
    have a9 := a9.cn c4
    have a1 := a1.cn c4
    have b1 := b1.ext c4
    have a0 := a0.cn c4
    have b2 := b2.ext c4
    have hC := hC.ext c4
    have hO := hO.ext c4
    rcases bif_some hs with ⟨j4, hs⟩ | ⟨j4, hs⟩
    ·refine c_condT (congrArg Value.bool j4) ?_
     refine x_start [5, 7] Mx rfl ?_
     have c1 := Chg.drew i3
     generalize World.drew i3 = u5 at c1 ⊢
     have hl0x0 := hl0x0.ext c1
     have a9 := a9.cn c1
     have a1 := a1.cn c1
     have b1 := b1.ext c1
     have a0 := a0.cn c1
     have b2 := b2.ext c1
     have hC := hC.ext c1
     have hO := hO.ext c1
     have hS := Chg.refl [] u5
     refine x_p 0 (.pointer (some ⟨a7, 1, none⟩)) rfl (by kernel_rfl)  (fun _ => y_faddr rfl Fa27x1) (fun _ => hS) ?_
     refine x_p 2 (.int .i64 s171.1) rfl (by kernel_rfl)  (fun _ => y_move rfl) (fun _ => hS) ?_
     refine x_p 3 (.pointer (some ⟨vg0, 0, none⟩)) rfl (by kernel_rfl)  (fun _ => y_move rfl) (fun _ => hS) ?_
     refine x_p 4 (.int .i64 n) rfl (by kernel_rfl)  (fun _ => y_move rfl) (fun _ => hS) ?_
     refine x_two (i := 1) (j := 5) (by kernel_rfl) ?_ ?_
     ·skip
      refine xk_val (b := false) (.slice a3 a4 a5) rfl  (y_load rfl ((box_load Ag25 Sz25 a0 [(.int .i64 r11.1)] [(.slice a3 a4 a5)] [] rfl rfl (fun _ => rfl)) _ (Chg.refl _ _))) rfl (fun _ => hS) ?_
      refine x_one (i := 5) (by kernel_rfl) ?_
      have hO := hO.fr1
      have u6 := hO
      have m4 := Own.lend (F := (([vg0]) ++ ([]))) (R := d6 ++ (([a7]) ++ (b6 ++ (([a2]) ++ ([]))))) (Own.perm (u6) (by simp))
      obtain ⟨r204, j5, hs⟩ := bind_some hs
      refine xk_call (b := true) rfl  Bd62 rfl (c_spec_l1Cur__pick (M := M) n (b0.1, s171.2.1, s171.2.2.1) (show BoxV _ vg0 53 [(.slice va0x0 vn0x0 vc0x0), (.int .i64 s171.2.1), (.int .u64 s171.2.2.1)] from a9) hl0x0 m4 m4.fut j5) rfl (fun h => nomatch h) ?_
      rintro _ u7 ⟨rfl, d8, g7, u9⟩
      have hO := hO.perm (R := (([vg0]) ++ ([])) ++ (d6 ++ (([a7]) ++ (b6 ++ (([a2]) ++ ([])))))) (by simp)
      have hl0x0 := hl0x0.mt d8 hO same_
      have a1 := a1.ap d8 hO same_ (mem_r (mem_r (mem_r (mem_l (List.mem_singleton.2 rfl)))))
      have b1 := b1.ma d8 hO same_ (fun _ e => (mem_r (mem_r (mem_l (e)))))
      have a0 := a0.ap d8 hO same_ (mem_r (mem_l (List.mem_singleton.2 rfl)))
      have b2 := b2.ma d8 hO same_ (fun _ e => (mem_l (e)))
      have hC := hC.st d8 hO same_
      have hO := Own.join hO d8 u9
      have hO := hO.perm (R := [vg0] ++ (d6 ++ (([a7]) ++ (b6 ++ (([a2]) ++ ([])))))) (by simp)
      have g7 : BoxV u7 vg0 53 [(.slice va0x0 vn0x0 vc0x0), (.int .i64 r204.2.1), (.int .u64 r204.2.2)] := g7
      obtain ⟨x205, j6, hs⟩ := bind_some hs
      obtain ⟨m5, D0, m6, v0, v1, D1, D2⟩ := os_idx Sl25 Sz3 b1 j6
      refine x_p 6 (.pointer (some ⟨m5, 0 + Int.toNat s171.1 * 1, none⟩)) rfl (by kernel_rfl)  (fun _ => v1 _ _ _ _ _ _ _ _ _ rfl rfl) (fun h => nomatch h) ?_
      refine x_one (i := 7) (by kernel_rfl) ?_
      have hO := hO.fr3
      obtain ⟨v2, v3, v4, d9, v5, j7⟩ := os_store (P := Try.prog) (c' := [(.int .i64 r204.1)]) m6 b1 v0 (fun g hg => hO.inM g (os_block b1 g (by simpa using hg))) ⟨rfl, rfl⟩ List.nodup_nil (fun _ h => nomatch h) (fun _ h => .inl h)
      have e8 : ∀ q ∈ [m5], q ∈ b6 := fun q hq => os_block b1 q (by rw [m6]; exact hq)
      refine xk_skip (w' := v2) (b := true) rfl (ys_store rfl rfl (v4 _ _ rfl Sz3)) rfl (fun h => nomatch h) ?_
      have hl0x0 := hl0x0.mt d9 hO e8
      have g7 := g7.ap d9 hO e8 (mem_l (List.mem_singleton.2 rfl))
      have a1 := a1.ap d9 hO e8 (mem_r (mem_r (mem_r (mem_l (List.mem_singleton.2 rfl)))))
      have a0 := a0.ap d9 hO e8 (mem_r (mem_r (mem_l (List.mem_singleton.2 rfl))))
      have b2 := b2.ma d9 hO e8 (fun _ e => (mem_r (mem_l (e))))
      have hC := hC.st d9 hO e8
      have hO := hO.grow d9 (fun q hq => .inl ((v5 q hq).resolve_right (fun h => nomatch h))) (os_nodup j7) j7.fpl
      refine x_end (by kernel_rfl) ?_
      clear hS
      refine c_region ?_
      refine pl_val (.int .i64 s171.1) (y_move rfl) ?_
      refine pl_val (.int .i64 (w64 (s171.1 + 1))) (y_add rfl rfl) ?_
      refine pl_val (.int .i64 (w64 (s171.1 + 1))) (y_assign rfl) ?_
      refine c_nil ?_
      cases hs
      have hO := hO.fr2
      have hO := hO.drop
      have hO := hO.fr3
      have hO := hO.fr1
      have hO := hO.fr3
      have hO := hO.fr3
      exact ⟨_, v3, fr_ovl 84 ⟨rfl, rfl, rfl, rfl, rfl, trivial⟩, hC, hO, hl0x0, g7, a1, j7, a0⟩
     ·skip
      have hO := hO.fr1
      have v6 := hO
      have m7 := Own.lend (F := (([vg0]) ++ ([]))) (R := d6 ++ (([a7]) ++ (b6 ++ (([a2]) ++ ([]))))) (Own.perm (v6) (by simp))
      obtain ⟨r204, j5, hs⟩ := bind_some hs
      refine xk_call (b := true) rfl  Bd62 rfl (c_spec_l1Cur__pick (M := M) n (b0.1, s171.2.1, s171.2.2.1) (show BoxV _ vg0 53 [(.slice va0x0 vn0x0 vc0x0), (.int .i64 s171.2.1), (.int .u64 s171.2.2.1)] from a9) hl0x0 m7 m7.fut j5) rfl (fun h => nomatch h) ?_
      rintro _ v7 ⟨rfl, e0, g8, v8⟩
      have hO := hO.perm (R := (([vg0]) ++ ([])) ++ (d6 ++ (([a7]) ++ (b6 ++ (([a2]) ++ ([])))))) (by simp)
      have hl0x0 := hl0x0.mt e0 hO same_
      have a1 := a1.ap e0 hO same_ (mem_r (mem_r (mem_r (mem_l (List.mem_singleton.2 rfl)))))
      have b1 := b1.ma e0 hO same_ (fun _ e => (mem_r (mem_r (mem_l (e)))))
      have a0 := a0.ap e0 hO same_ (mem_r (mem_l (List.mem_singleton.2 rfl)))
      have b2 := b2.ma e0 hO same_ (fun _ e => (mem_l (e)))
      have hC := hC.st e0 hO same_
      have hO := Own.join hO e0 v8
      have hO := hO.perm (R := [vg0] ++ (d6 ++ (([a7]) ++ (b6 ++ (([a2]) ++ ([])))))) (by simp)
      have g8 : BoxV v7 vg0 53 [(.slice va0x0 vn0x0 vc0x0), (.int .i64 r204.2.1), (.int .u64 r204.2.2)] := g8
      refine x_one (i := 1) (by kernel_rfl) ?_
      refine xk_val (b := true) (.slice a3 a4 a5) rfl  (y_load rfl ((box_load Ag25 Sz25 a0 [(.int .i64 r11.1)] [(.slice a3 a4 a5)] [] rfl rfl (fun _ => rfl)) _ (Chg.refl _ _))) rfl (fun h => nomatch h) ?_
      obtain ⟨x205, j6, hs⟩ := bind_some hs
      obtain ⟨m8, D3, m9, v9, w1, D4, D5⟩ := os_idx Sl25 Sz3 b1 j6
      refine x_p 6 (.pointer (some ⟨m8, 0 + Int.toNat s171.1 * 1, none⟩)) rfl (by kernel_rfl)  (fun _ => w1 _ _ _ _ _ _ _ _ _ rfl rfl) (fun h => nomatch h) ?_
      refine x_one (i := 7) (by kernel_rfl) ?_
      have hO := hO.fr3
      obtain ⟨w2, w3, w4, e1, w5, j8⟩ := os_store (P := Try.prog) (c' := [(.int .i64 r204.1)]) m9 b1 v9 (fun g hg => hO.inM g (os_block b1 g (by simpa using hg))) ⟨rfl, rfl⟩ List.nodup_nil (fun _ h => nomatch h) (fun _ h => .inl h)
      have e9 : ∀ q ∈ [m8], q ∈ b6 := fun q hq => os_block b1 q (by rw [m9]; exact hq)
      refine xk_skip (w' := w2) (b := true) rfl (ys_store rfl rfl (w4 _ _ rfl Sz3)) rfl (fun h => nomatch h) ?_
      have hl0x0 := hl0x0.mt e1 hO e9
      have g8 := g8.ap e1 hO e9 (mem_l (List.mem_singleton.2 rfl))
      have a1 := a1.ap e1 hO e9 (mem_r (mem_r (mem_r (mem_l (List.mem_singleton.2 rfl)))))
      have a0 := a0.ap e1 hO e9 (mem_r (mem_r (mem_l (List.mem_singleton.2 rfl))))
      have b2 := b2.ma e1 hO e9 (fun _ e => (mem_r (mem_l (e))))
      have hC := hC.st e1 hO e9
      have hO := hO.grow e1 (fun q hq => .inl ((w5 q hq).resolve_right (fun h => nomatch h))) (os_nodup j8) j8.fpl
      refine x_end (by kernel_rfl) ?_
      clear hS
      refine c_region ?_
      refine pl_val (.int .i64 s171.1) (y_move rfl) ?_
      refine pl_val (.int .i64 (w64 (s171.1 + 1))) (y_add rfl rfl) ?_
      refine pl_val (.int .i64 (w64 (s171.1 + 1))) (y_assign rfl) ?_
      refine c_nil ?_
      cases hs
      have hO := hO.fr2
      have hO := hO.drop
      have hO := hO.fr3
      have hO := hO.fr1
      have hO := hO.fr3
      have hO := hO.fr3
      exact ⟨_, w3, fr_ovl 84 ⟨rfl, rfl, rfl, rfl, rfl, trivial⟩, hC, hO, hl0x0, g8, a1, j8, a0⟩
    refine c_condF (congrArg Value.bool j4) ?_
    refine wp_skip ?_
    refine c_region ?_
    refine pl_val (.int .i64 s171.1) (y_move rfl) ?_
    refine pl_val (.int .i64 (w64 (s171.1 + 1))) (y_add rfl rfl) ?_
    refine pl_val (.int .i64 (w64 (s171.1 + 1))) (y_assign rfl) ?_
    refine c_nil ?_
    cases hs
    have hO := hO.drop
    have hO := hO.fr3
    have hO := hO.fr3
    have hO := hO.fr3
    have hO := hO.fr3
    exact ⟨_, b6, fr_ovl 84 ⟨rfl, rfl, rfl, rfl, rfl, trivial⟩, hC, hO, hl0x0, a9, a1, b1, a0⟩
   refine c_condF (congrArg Value.bool j3) ?_
   refine wp_exit ?_
   cases hs
   have hO := hO.fr3
   have hO := hO.fr3
   have hO := hO.fr3
   have hO := hO.fr3
   exact ⟨rfl, _, b6, fr_ovl 84 ⟨rfl, rfl, trivial⟩, hC, hO, hl0x0, a9, a1, b1, a0⟩
  ·skip
   have hO := hO.fr3
   have hO := hO.fr3
   have hO := hO.fr3
   have hO := hO.fr3
   exact ⟨_, a8, fr_ovl 84 ⟨rfl, rfl, rfl, rfl, rfl, trivial⟩, hC, hO, hl0x0, a9, a1, a6, a0⟩
  cases o175 with
  | nx _ => exact True.intro
  | rt r_ =>
   have hs := after_rt hs
   intro m3 o6 hK
   cases hs
   exact hK
  | br s171 =>
   have hs := after_br hs
   rintro m3 b3 ⟨σ, i1, rfl, hC, hO, hl0x0, a9, a1, j9, a0⟩
   refine c_sr ?_
   refine pl_val (.agg #[(.int .i64 r11.1), (.slice a3 a4 a5)]) (y_load rfl ((box_load Ag27 Sz27 a0 [] [(.int .i64 r11.1), (.slice a3 a4 a5)] [] rfl rfl (fun h => nomatch h)) _ (Chg.refl _ _))) ?_
   obtain ⟨n0, w6, f0, k0⟩ := box_store (P := Try.prog) a1 [] [(.int .i64 0), (.slice none 0 0)] [] [(.int .i64 r11.1), (.slice a3 a4 a5)] rfl rfl (by intro u hu; simp only [List.mem_cons, List.not_mem_nil, or_false] at hu; rcases hu with rfl | rfl <;> rfl)
   refine pl_skip (w' := n0) (ys_store rfl rfl (w6 _ _ rfl Sz27)) ?_
   have hO := hO.fr3
   have hl0x0 := hl0x0.mt f0 hO same_
   have a9 := a9.ap f0 hO same_ (mem_l (List.mem_singleton.2 rfl))
   have j9 := j9.ma f0 hO same_ (fun _ e => (mem_r (mem_r (mem_l (e)))))
   have a0 := a0.ap f0 hO same_ (mem_r (mem_l (List.mem_singleton.2 rfl)))
   have hC := hC.st f0 hO same_
   have hO := hO.ext f0
   have k0 : BoxV n0 a2 27 [(.int .i64 r11.1), (.slice a3 a4 a5)] := k0
   refine c_nil ?_
   refine wp_ret ?_
   cases hs
   have hO := hO.drop
   have hO := hO.fr1
   have hO := hO.drop
   have hO := hO.fr1
   exact ⟨_, a2, a3, a4, a5, i1, fr_ovl 84 ⟨rfl, trivial⟩, k0, hC, j9, a9, hO.top⟩
 refine c_condF (congrArg Value.bool j2) ?_
 refine c_sr ?_
 refine pl_val (.bool (r16.1 == 2)) (y_eql rfl rfl) ?_
 refine pl_val (.bool (r16.1 == 2)) (y_assign rfl) ?_
 refine c_nil ?_
 rcases bif_some hs with ⟨k1, hs⟩ | ⟨k1, hs⟩
 ·refine c_condT (congrArg Value.bool k1) ?_
  refine x_start [6, 9, 11] Mx rfl ?_
  have c5 := Chg.drew i0
  generalize World.drew i0 = w7 at c5 ⊢
  have hl0x0 := hl0x0.ext c5
  have a9 := a9.cn c5
  have a1 := a1.cn c5
  have a6 := a6.ext c5
  have a0 := a0.cn c5
  have hC := hC.ext c5
  have hO := hO.ext c5
  have hS := Chg.refl [] w7
  refine x_p 0 (.pointer (some ⟨a7, 1, none⟩)) rfl (by kernel_rfl)  (fun _ => y_faddr rfl Fa27x1) (fun _ => hS) ?_
  refine x_p 2 (.pointer (some ⟨vg0, 0, none⟩)) rfl (by kernel_rfl)  (fun _ => y_move rfl) (fun _ => hS) ?_
  refine x_p 3 (.pointer (some ⟨a7, 1, none⟩)) rfl (by kernel_rfl)  (fun _ => y_faddr rfl Fa27x1) (fun _ => hS) ?_
  refine x_l 4 (.slice a3 a4 a5) rfl (by kernel_rfl)  (fun w' hw' => y_load rfl ((box_load Ag25 Sz25 a0 [(.int .i64 r11.1)] [(.slice a3 a4 a5)] [] rfl rfl (fun _ => rfl)) w' hw')) hS ?_
  refine x_p 5 (.int .i64 (r11.2.length : Int)) rfl (by kernel_rfl)  (fun _ => y_len' Sl25 (os_len a6) rfl) (fun _ => hS) ?_
  refine x_p 7 (.pointer (some ⟨vg0, 0, none⟩)) rfl (by kernel_rfl)  (fun _ => y_move rfl) (fun _ => hS) ?_
  refine x_p 8 (.int .i64 n) rfl (by kernel_rfl)  (fun _ => y_move rfl) (fun _ => hS) ?_
  refine x_two (i := 1) (j := 6) (by kernel_rfl) ?_ ?_
  ·skip
   refine xk_val (b := false) (.slice a3 a4 a5) rfl  (y_load rfl ((box_load Ag25 Sz25 a0 [(.int .i64 r11.1)] [(.slice a3 a4 a5)] [] rfl rfl (fun _ => rfl)) _ (Chg.refl _ _))) rfl (fun _ => hS) ?_
   refine x_one (i := 6) (by kernel_rfl) ?_
   have w8 := hO
   have n1 := Own.lend (F := (([vg0]) ++ ([]))) (R := ([a7]) ++ (a8 ++ (([a2]) ++ ([])))) (Own.perm (w8) (by simp))
   obtain ⟨r217, k2, hs⟩ := bind_some hs
   refine xk_call (b := true) rfl  Bd62 rfl (c_spec_l1Cur__pick (M := M) (r11.2.length : Int) (b0.1, r16.2.1, r16.2.2) (show BoxV _ vg0 53 [(.slice va0x0 vn0x0 vc0x0), (.int .i64 r16.2.1), (.int .u64 r16.2.2)] from a9) hl0x0 n1 n1.fut k2) rfl (fun h => nomatch h) ?_
   rintro _ w9 ⟨rfl, f1, k3, x0⟩
   have hO := hO.perm (R := (([vg0]) ++ ([])) ++ (([a7]) ++ (a8 ++ (([a2]) ++ ([]))))) (by simp)
   have hl0x0 := hl0x0.mt f1 hO same_
   have a1 := a1.ap f1 hO same_ (mem_r (mem_r (mem_l (List.mem_singleton.2 rfl))))
   have a6 := a6.ma f1 hO same_ (fun _ e => (mem_r (mem_l (e))))
   have a0 := a0.ap f1 hO same_ (mem_l (List.mem_singleton.2 rfl))
   have hC := hC.st f1 hO same_
   have hO := Own.join hO f1 x0
   have hO := hO.perm (R := [vg0] ++ (([a7]) ++ (a8 ++ (([a2]) ++ ([]))))) (by simp)
   have k3 : BoxV w9 vg0 53 [(.slice va0x0 vn0x0 vc0x0), (.int .i64 r217.2.1), (.int .u64 r217.2.2)] := k3
   refine x_one (i := 9) (by kernel_rfl) ?_
   have x1 := hO
   have n2 := Own.lend (F := (([vg0]) ++ ([]))) (R := ([a7]) ++ (a8 ++ (([a2]) ++ ([])))) (Own.perm (x1) (by simp))
   obtain ⟨r219, g9, hs⟩ := bind_some hs
   refine xk_call (b := true) rfl  Bd62 rfl (c_spec_l1Cur__pick (M := M) n (b0.1, r217.2.1, r217.2.2) (show BoxV _ vg0 53 [(.slice va0x0 vn0x0 vc0x0), (.int .i64 r217.2.1), (.int .u64 r217.2.2)] from k3) hl0x0 n2 n2.fut g9) rfl (fun h => nomatch h) ?_
   rintro _ x2 ⟨rfl, f2, e2, x3⟩
   have hO := hO.perm (R := (([vg0]) ++ ([])) ++ (([a7]) ++ (a8 ++ (([a2]) ++ ([]))))) (by simp)
   have hl0x0 := hl0x0.mt f2 hO same_
   have a1 := a1.ap f2 hO same_ (mem_r (mem_r (mem_l (List.mem_singleton.2 rfl))))
   have a6 := a6.ma f2 hO same_ (fun _ e => (mem_r (mem_l (e))))
   have a0 := a0.ap f2 hO same_ (mem_l (List.mem_singleton.2 rfl))
   have hC := hC.st f2 hO same_
   have hO := Own.join hO f2 x3
   have hO := hO.perm (R := [vg0] ++ (([a7]) ++ (a8 ++ (([a2]) ++ ([]))))) (by simp)
   have e2 : BoxV x2 vg0 53 [(.slice va0x0 vn0x0 vc0x0), (.int .i64 r219.2.1), (.int .u64 r219.2.2)] := e2
   obtain ⟨x220, h0, hs⟩ := bind_some hs
   obtain ⟨n3, D6, n4, x4, x5, D7, D8⟩ := os_idx Sl25 Sz3 a6 h0
   refine x_p 10 (.pointer (some ⟨n3, 0 + Int.toNat r217.1 * 1, none⟩)) rfl (by kernel_rfl)  (fun _ => x5 _ _ _ _ _ _ _ _ _ rfl rfl) (fun h => nomatch h) ?_
   refine x_one (i := 11) (by kernel_rfl) ?_
   have hO := hO.fr2
   obtain ⟨x6, x7, x8, f3, x9, h1⟩ := os_store (P := Try.prog) (c' := [(.int .i64 r219.1)]) n4 a6 x4 (fun g hg => hO.inM g (os_block a6 g (by simpa using hg))) ⟨rfl, rfl⟩ List.nodup_nil (fun _ h => nomatch h) (fun _ h => .inl h)
   have h2 : ∀ q ∈ [n3], q ∈ a8 := fun q hq => os_block a6 q (by rw [n4]; exact hq)
   refine xk_skip (w' := x6) (b := true) rfl (ys_store rfl rfl (x8 _ _ rfl Sz3)) rfl (fun h => nomatch h) ?_
   have hl0x0 := hl0x0.mt f3 hO h2
   have e2 := e2.ap f3 hO h2 (mem_l (List.mem_singleton.2 rfl))
   have a1 := a1.ap f3 hO h2 (mem_r (mem_r (mem_l (List.mem_singleton.2 rfl))))
   have a0 := a0.ap f3 hO h2 (mem_r (mem_l (List.mem_singleton.2 rfl)))
   have hC := hC.st f3 hO h2
   have hO := hO.grow f3 (fun q hq => .inl ((x9 q hq).resolve_right (fun h => nomatch h))) (os_nodup h1) h1.fpl
   refine x_end (by kernel_rfl) ?_
   clear hS
   refine c_sr ?_
   refine pl_val (.agg #[(.int .i64 r11.1), (.slice a3 a4 a5)]) (y_load rfl ((box_load Ag27 Sz27 a0 [] [(.int .i64 r11.1), (.slice a3 a4 a5)] [] rfl rfl (fun h => nomatch h)) _ (Chg.refl _ _))) ?_
   obtain ⟨n5, y0, f4, k4⟩ := box_store (P := Try.prog) a1 [] [(.int .i64 0), (.slice none 0 0)] [] [(.int .i64 r11.1), (.slice a3 a4 a5)] rfl rfl (by intro u hu; simp only [List.mem_cons, List.not_mem_nil, or_false] at hu; rcases hu with rfl | rfl <;> rfl)
   refine pl_skip (w' := n5) (ys_store rfl rfl (y0 _ _ rfl Sz27)) ?_
   have hO := hO.fr3
   have hl0x0 := hl0x0.mt f4 hO same_
   have e2 := e2.ap f4 hO same_ (mem_r (mem_l (List.mem_singleton.2 rfl)))
   have h1 := h1.ma f4 hO same_ (fun _ e => (mem_l (e)))
   have a0 := a0.ap f4 hO same_ (mem_r (mem_r (mem_l (List.mem_singleton.2 rfl))))
   have hC := hC.st f4 hO same_
   have hO := hO.ext f4
   have k4 : BoxV n5 a2 27 [(.int .i64 r11.1), (.slice a3 a4 a5)] := k4
   refine c_nil ?_
   refine wp_ret ?_
   cases hs
   have hO := hO.drop
   have hO := hO.fr2
   have hO := hO.drop
   have hO := hO.fr1
   have hO := hO.fr1
   exact ⟨_, a2, a3, a4, a5, x7, fr_ovl 84 ⟨rfl, trivial⟩, k4, hC, h1, e2, hO.top⟩
  ·skip
   have y1 := hO
   have n6 := Own.lend (F := (([vg0]) ++ ([]))) (R := ([a7]) ++ (a8 ++ (([a2]) ++ ([])))) (Own.perm (y1) (by simp))
   obtain ⟨r217, k2, hs⟩ := bind_some hs
   refine xk_call (b := true) rfl  Bd62 rfl (c_spec_l1Cur__pick (M := M) (r11.2.length : Int) (b0.1, r16.2.1, r16.2.2) (show BoxV _ vg0 53 [(.slice va0x0 vn0x0 vc0x0), (.int .i64 r16.2.1), (.int .u64 r16.2.2)] from a9) hl0x0 n6 n6.fut k2) rfl (fun h => nomatch h) ?_
   rintro _ y2 ⟨rfl, f5, i4, y3⟩
   have hO := hO.perm (R := (([vg0]) ++ ([])) ++ (([a7]) ++ (a8 ++ (([a2]) ++ ([]))))) (by simp)
   have hl0x0 := hl0x0.mt f5 hO same_
   have a1 := a1.ap f5 hO same_ (mem_r (mem_r (mem_l (List.mem_singleton.2 rfl))))
   have a6 := a6.ma f5 hO same_ (fun _ e => (mem_r (mem_l (e))))
   have a0 := a0.ap f5 hO same_ (mem_l (List.mem_singleton.2 rfl))
   have hC := hC.st f5 hO same_
   have hO := Own.join hO f5 y3
   have hO := hO.perm (R := [vg0] ++ (([a7]) ++ (a8 ++ (([a2]) ++ ([]))))) (by simp)
   have i4 : BoxV y2 vg0 53 [(.slice va0x0 vn0x0 vc0x0), (.int .i64 r217.2.1), (.int .u64 r217.2.2)] := i4
   refine x_two (i := 1) (j := 9) (by kernel_rfl) ?_ ?_
   ·skip
    refine xk_val (b := true) (.slice a3 a4 a5) rfl  (y_load rfl ((box_load Ag25 Sz25 a0 [(.int .i64 r11.1)] [(.slice a3 a4 a5)] [] rfl rfl (fun _ => rfl)) _ (Chg.refl _ _))) rfl (fun h => nomatch h) ?_
    refine x_one (i := 9) (by kernel_rfl) ?_
    have y4 := hO
    have n7 := Own.lend (F := (([vg0]) ++ ([]))) (R := ([a7]) ++ (a8 ++ (([a2]) ++ ([])))) (Own.perm (y4) (by simp))
    obtain ⟨r219, g9, hs⟩ := bind_some hs
    refine xk_call (b := true) rfl  Bd62 rfl (c_spec_l1Cur__pick (M := M) n (b0.1, r217.2.1, r217.2.2) (show BoxV _ vg0 53 [(.slice va0x0 vn0x0 vc0x0), (.int .i64 r217.2.1), (.int .u64 r217.2.2)] from i4) hl0x0 n7 n7.fut g9) rfl (fun h => nomatch h) ?_
    rintro _ y5 ⟨rfl, f6, e3, y6⟩
    have hO := hO.perm (R := (([vg0]) ++ ([])) ++ (([a7]) ++ (a8 ++ (([a2]) ++ ([]))))) (by simp)
    have hl0x0 := hl0x0.mt f6 hO same_
    have a1 := a1.ap f6 hO same_ (mem_r (mem_r (mem_l (List.mem_singleton.2 rfl))))
    have a6 := a6.ma f6 hO same_ (fun _ e => (mem_r (mem_l (e))))
    have a0 := a0.ap f6 hO same_ (mem_l (List.mem_singleton.2 rfl))
    have hC := hC.st f6 hO same_
    have hO := Own.join hO f6 y6
    have hO := hO.perm (R := [vg0] ++ (([a7]) ++ (a8 ++ (([a2]) ++ ([]))))) (by simp)
    have e3 : BoxV y5 vg0 53 [(.slice va0x0 vn0x0 vc0x0), (.int .i64 r219.2.1), (.int .u64 r219.2.2)] := e3
    obtain ⟨x220, h0, hs⟩ := bind_some hs
    obtain ⟨n8, D9, n9, y7, y8, E0, E1⟩ := os_idx Sl25 Sz3 a6 h0
    refine x_p 10 (.pointer (some ⟨n8, 0 + Int.toNat r217.1 * 1, none⟩)) rfl (by kernel_rfl)  (fun _ => y8 _ _ _ _ _ _ _ _ _ rfl rfl) (fun h => nomatch h) ?_
    refine x_one (i := 11) (by kernel_rfl) ?_
    have hO := hO.fr2
    obtain ⟨y9, z0, z1, f7, z2, h3⟩ := os_store (P := Try.prog) (c' := [(.int .i64 r219.1)]) n9 a6 y7 (fun g hg => hO.inM g (os_block a6 g (by simpa using hg))) ⟨rfl, rfl⟩ List.nodup_nil (fun _ h => nomatch h) (fun _ h => .inl h)
    have h4 : ∀ q ∈ [n8], q ∈ a8 := fun q hq => os_block a6 q (by rw [n9]; exact hq)
    refine xk_skip (w' := y9) (b := true) rfl (ys_store rfl rfl (z1 _ _ rfl Sz3)) rfl (fun h => nomatch h) ?_
    have hl0x0 := hl0x0.mt f7 hO h4
    have e3 := e3.ap f7 hO h4 (mem_l (List.mem_singleton.2 rfl))
    have a1 := a1.ap f7 hO h4 (mem_r (mem_r (mem_l (List.mem_singleton.2 rfl))))
    have a0 := a0.ap f7 hO h4 (mem_r (mem_l (List.mem_singleton.2 rfl)))
    have hC := hC.st f7 hO h4
    have hO := hO.grow f7 (fun q hq => .inl ((z2 q hq).resolve_right (fun h => nomatch h))) (os_nodup h3) h3.fpl
    refine x_end (by kernel_rfl) ?_
    clear hS
    refine c_sr ?_
    refine pl_val (.agg #[(.int .i64 r11.1), (.slice a3 a4 a5)]) (y_load rfl ((box_load Ag27 Sz27 a0 [] [(.int .i64 r11.1), (.slice a3 a4 a5)] [] rfl rfl (fun h => nomatch h)) _ (Chg.refl _ _))) ?_
    obtain ⟨o0, z3, f8, k5⟩ := box_store (P := Try.prog) a1 [] [(.int .i64 0), (.slice none 0 0)] [] [(.int .i64 r11.1), (.slice a3 a4 a5)] rfl rfl (by intro u hu; simp only [List.mem_cons, List.not_mem_nil, or_false] at hu; rcases hu with rfl | rfl <;> rfl)
    refine pl_skip (w' := o0) (ys_store rfl rfl (z3 _ _ rfl Sz27)) ?_
    have hO := hO.fr3
    have hl0x0 := hl0x0.mt f8 hO same_
    have e3 := e3.ap f8 hO same_ (mem_r (mem_l (List.mem_singleton.2 rfl)))
    have h3 := h3.ma f8 hO same_ (fun _ e => (mem_l (e)))
    have a0 := a0.ap f8 hO same_ (mem_r (mem_r (mem_l (List.mem_singleton.2 rfl))))
    have hC := hC.st f8 hO same_
    have hO := hO.ext f8
    have k5 : BoxV o0 a2 27 [(.int .i64 r11.1), (.slice a3 a4 a5)] := k5
    refine c_nil ?_
    refine wp_ret ?_
    cases hs
    have hO := hO.drop
    have hO := hO.fr2
    have hO := hO.drop
    have hO := hO.fr1
    have hO := hO.fr1
    exact ⟨_, a2, a3, a4, a5, z0, fr_ovl 84 ⟨rfl, trivial⟩, k5, hC, h3, e3, hO.top⟩
   ·skip
    have z4 := hO
    have o1 := Own.lend (F := (([vg0]) ++ ([]))) (R := ([a7]) ++ (a8 ++ (([a2]) ++ ([])))) (Own.perm (z4) (by simp))
    obtain ⟨r219, g9, hs⟩ := bind_some hs
    refine xk_call (b := true) rfl  Bd62 rfl (c_spec_l1Cur__pick (M := M) n (b0.1, r217.2.1, r217.2.2) (show BoxV _ vg0 53 [(.slice va0x0 vn0x0 vc0x0), (.int .i64 r217.2.1), (.int .u64 r217.2.2)] from i4) hl0x0 o1 o1.fut g9) rfl (fun h => nomatch h) ?_
    rintro _ z5 ⟨rfl, f9, e4, z6⟩
    have hO := hO.perm (R := (([vg0]) ++ ([])) ++ (([a7]) ++ (a8 ++ (([a2]) ++ ([]))))) (by simp)
    have hl0x0 := hl0x0.mt f9 hO same_
    have a1 := a1.ap f9 hO same_ (mem_r (mem_r (mem_l (List.mem_singleton.2 rfl))))
    have a6 := a6.ma f9 hO same_ (fun _ e => (mem_r (mem_l (e))))
    have a0 := a0.ap f9 hO same_ (mem_l (List.mem_singleton.2 rfl))
    have hC := hC.st f9 hO same_
    have hO := Own.join hO f9 z6
    have hO := hO.perm (R := [vg0] ++ (([a7]) ++ (a8 ++ (([a2]) ++ ([]))))) (by simp)
    have e4 : BoxV z5 vg0 53 [(.slice va0x0 vn0x0 vc0x0), (.int .i64 r219.2.1), (.int .u64 r219.2.2)] := e4
    refine x_one (i := 1) (by kernel_rfl) ?_
    refine xk_val (b := true) (.slice a3 a4 a5) rfl  (y_load rfl ((box_load Ag25 Sz25 a0 [(.int .i64 r11.1)] [(.slice a3 a4 a5)] [] rfl rfl (fun _ => rfl)) _ (Chg.refl _ _))) rfl (fun h => nomatch h) ?_
    obtain ⟨x220, h0, hs⟩ := bind_some hs
    obtain ⟨o2, E2, o3, z7, z8, E3, E4⟩ := os_idx Sl25 Sz3 a6 h0
    refine x_p 10 (.pointer (some ⟨o2, 0 + Int.toNat r217.1 * 1, none⟩)) rfl (by kernel_rfl)  (fun _ => z8 _ _ _ _ _ _ _ _ _ rfl rfl) (fun h => nomatch h) ?_
    refine x_one (i := 11) (by kernel_rfl) ?_
    have hO := hO.fr2
    obtain ⟨z9, A0, A1, g0, A2, h5⟩ := os_store (P := Try.prog) (c' := [(.int .i64 r219.1)]) o3 a6 z7 (fun g hg => hO.inM g (os_block a6 g (by simpa using hg))) ⟨rfl, rfl⟩ List.nodup_nil (fun _ h => nomatch h) (fun _ h => .inl h)
    have h6 : ∀ q ∈ [o2], q ∈ a8 := fun q hq => os_block a6 q (by rw [o3]; exact hq)
    refine xk_skip (w' := z9) (b := true) rfl (ys_store rfl rfl (A1 _ _ rfl Sz3)) rfl (fun h => nomatch h) ?_
    have hl0x0 := hl0x0.mt g0 hO h6
    have e4 := e4.ap g0 hO h6 (mem_l (List.mem_singleton.2 rfl))
    have a1 := a1.ap g0 hO h6 (mem_r (mem_r (mem_l (List.mem_singleton.2 rfl))))
    have a0 := a0.ap g0 hO h6 (mem_r (mem_l (List.mem_singleton.2 rfl)))
    have hC := hC.st g0 hO h6
    have hO := hO.grow g0 (fun q hq => .inl ((A2 q hq).resolve_right (fun h => nomatch h))) (os_nodup h5) h5.fpl
    refine x_end (by kernel_rfl) ?_
    clear hS
    refine c_sr ?_
    refine pl_val (.agg #[(.int .i64 r11.1), (.slice a3 a4 a5)]) (y_load rfl ((box_load Ag27 Sz27 a0 [] [(.int .i64 r11.1), (.slice a3 a4 a5)] [] rfl rfl (fun h => nomatch h)) _ (Chg.refl _ _))) ?_
    obtain ⟨o4, A3, g1, k6⟩ := box_store (P := Try.prog) a1 [] [(.int .i64 0), (.slice none 0 0)] [] [(.int .i64 r11.1), (.slice a3 a4 a5)] rfl rfl (by intro u hu; simp only [List.mem_cons, List.not_mem_nil, or_false] at hu; rcases hu with rfl | rfl <;> rfl)
    refine pl_skip (w' := o4) (ys_store rfl rfl (A3 _ _ rfl Sz27)) ?_
    have hO := hO.fr3
    have hl0x0 := hl0x0.mt g1 hO same_
    have e4 := e4.ap g1 hO same_ (mem_r (mem_l (List.mem_singleton.2 rfl)))
    have h5 := h5.ma g1 hO same_ (fun _ e => (mem_l (e)))
    have a0 := a0.ap g1 hO same_ (mem_r (mem_r (mem_l (List.mem_singleton.2 rfl))))
    have hC := hC.st g1 hO same_
    have hO := hO.ext g1
    have k6 : BoxV o4 a2 27 [(.int .i64 r11.1), (.slice a3 a4 a5)] := k6
    refine c_nil ?_
    refine wp_ret ?_
    cases hs
    have hO := hO.drop
    have hO := hO.fr2
    have hO := hO.drop
    have hO := hO.fr1
    have hO := hO.fr1
    exact ⟨_, a2, a3, a4, a5, A0, fr_ovl 84 ⟨rfl, trivial⟩, k6, hC, h5, e4, hO.top⟩
 refine c_condF (congrArg Value.bool k1) ?_
 refine wp_skip ?_
 refine c_sr ?_
 refine pl_val (.agg #[(.int .i64 r11.1), (.slice a3 a4 a5)]) (y_load rfl ((box_load Ag27 Sz27 a0 [] [(.int .i64 r11.1), (.slice a3 a4 a5)] [] rfl rfl (fun h => nomatch h)) _ (Chg.refl _ _))) ?_
 obtain ⟨o5, A4, g2, k7⟩ := box_store (P := Try.prog) a1 [] [(.int .i64 0), (.slice none 0 0)] [] [(.int .i64 r11.1), (.slice a3 a4 a5)] rfl rfl (by intro u hu; simp only [List.mem_cons, List.not_mem_nil, or_false] at hu; rcases hu with rfl | rfl <;> rfl)
 refine pl_skip (w' := o5) (ys_store rfl rfl (A4 _ _ rfl Sz27)) ?_
 have hO := hO.fr3
 have hl0x0 := hl0x0.mt g2 hO same_
 have a9 := a9.ap g2 hO same_ (mem_l (List.mem_singleton.2 rfl))
 have a6 := a6.ma g2 hO same_ (fun _ e => (mem_r (mem_r (mem_l (e)))))
 have a0 := a0.ap g2 hO same_ (mem_r (mem_l (List.mem_singleton.2 rfl)))
 have hC := hC.st g2 hO same_
 have hO := hO.ext g2
 have k7 : BoxV o5 a2 27 [(.int .i64 r11.1), (.slice a3 a4 a5)] := k7
 refine c_nil ?_
 refine wp_ret ?_
 cases hs
 have hO := hO.drop
 have hO := hO.fr1
 have hO := hO.drop
 have hO := hO.fr1
 exact ⟨_, a2, a3, a4, a5, a8, fr_ovl 84 ⟨rfl, trivial⟩, k7, hC, a6, a9, hO.top⟩

theorem Bd70 : Bodied Try.prog 70 := bodied Try.func70 (by kernel_rfl) rfl

def k_spec_DrawIsDiscriminatorOp (M : Nat → Prop) (w0 : World) (r : Int × (Int × (List Int))) (a : Act) (w : World) : Prop :=
  ∃ (σ : Nat → Value) (rg3 : Nat) (ra0 : Option Addr) (rn0 rc0 : Nat) (rf0 : List Nat), a = fr 15 (ovl σ [(2, (.int .i64 r.1)), (3, (.pointer (some ⟨rg3, 0, none⟩)))]) ∧ BoxV w rg3 27 [(.int .i64 r.2.1), (.slice ra0 rn0 rc0)] ∧ Chg [] w0 w ∧ (RT.os 3 (RT.int .i64)).val M w (.slice ra0 rn0 rc0) r.2.2 rf0 ∧ Own (Nw w0 []) (fun _ => True) w (rf0 ++ ([]))
def s_spec_DrawIsDiscriminatorOp (code : List Int) : Option (Int × (Int × (List Int))) :=
  (s_spec_l1Cur__size13 (code, 0, 0)).bind fun r5 =>
  (s_spec_l1Cur__op18 r5.1 (code, r5.2.1, r5.2.2)).bind fun r7 =>
  some (r5.1, (r7.1.1, r7.1.2))
set_option maxHeartbeats 4000000 in
theorem c_spec_DrawIsDiscriminatorOp {M : Nat → Prop} {w : World} {pa0 : Option Addr} {pn0 pc0 : Nat} (code : List Int) (h0 : (RT.rs (RT.int .u8)).val M w (.slice pa0 pn0 pc0) code ([])) (hM : ∀ g, w.heap.size ≤ g → M g) {r : Int × (Int × (List Int))} (hs : s_spec_DrawIsDiscriminatorOp code = some r) :
    Gives Try.prog 43 [(.slice pa0 pn0 pc0)] w (fun v w' => ∃ (ra0 : Option Addr) (rn0 rc0 : Nat) (rf0 : List Nat), v = (.tuple #[(.int .i64 r.1), (.agg #[(.int .i64 r.2.1), (.slice ra0 rn0 rc0)])]) ∧ Chg [] w w' ∧ (RT.os 3 (RT.int .i64)).val M w' (.slice ra0 rn0 rc0) r.2.2 rf0 ∧ Own (Nw w []) (fun _ => True) w' (rf0 ++ ([]))) := by
 refine calls_fr Try.func43 rfl Try.ntmps43 (Nat.le_of_ble_eq_true rfl) ?_
 have hO := Own.start (N := Nw w []) hM Nw.fut
 have hC := Chg.refl [] w
 unfold s_spec_DrawIsDiscriminatorOp at hs
 refine wp_mono (Q := KPost (k_spec_DrawIsDiscriminatorOp M w r)) ?_ (fun e a d5 h => ?_)
 rotate_left
 ·cases e
  case ret =>
   obtain ⟨σ, rg3, ra0, rn0, rc0, rf0, rfl, hbrg3, hrest⟩ := h
   exact ret2x Try.results43 (res_tmp rfl) (res_cell rfl (box_load Ag27 Sz27 hbrg3 [] _ [] rfl rfl (fun h => nomatch h))) ⟨ra0, rn0, rc0, rf0, rfl, hrest⟩
  all_goals exact (h : False).elim
 refine c_sr ?_
 refine pl_val (.int .i64 0) (y_assign rfl) ?_
 obtain ⟨b5, a1, c3, b6, a8, a2⟩ := new_block w [(.int .i64 0), (.slice none 0 0)] 27
 refine pl_val (w' := b5) (.pointer (some ⟨a1, 0, none⟩)) (y_alloc (by rw [c3, b6]; kernel_rfl)) ?_
 have h0 := h0.ext a8
 have hC := hC.ext a8
 have hO := hO.new1 a8 b6 a2.lt
 refine c_nil ?_
 refine c_sr ?_
 refine pl_val (.slice pa0 pn0 pc0) (y_move rfl) ?_
 refine pl_val (.agg #[(.slice pa0 pn0 pc0), (.int .i64 0), (.int .u64 0)]) (y_build rfl (by kernel_rfl)) ?_
 obtain ⟨c4, a0, c5, b7, a4, b8⟩ := new_block b5 [(.slice pa0 pn0 pc0), (.int .i64 0), (.int .u64 0)] 53
 refine pl_val (w' := c4) (.pointer (some ⟨a0, 0, none⟩)) (y_box rfl (by rw [c5, b7]; kernel_rfl)) ?_
 have h0 := h0.ext a4
 have a2 := a2.cn a4
 have hC := hC.ext a4
 have hO := hO.new1 a4 b7 b8.lt
 refine pl_val (.pointer (some ⟨a0, 0, none⟩)) (y_assign rfl) ?_
 refine c_nil ?_
 refine c_sr ?_
 refine pl_val (.pointer (some ⟨a0, 0, none⟩)) (y_move rfl) ?_
 have c6 := hO
 have b9 := Own.lend (F := (([a0]) ++ ([]))) (R := ([a1]) ++ ([])) (Own.perm (c6) (by simp))
 obtain ⟨r5, c7, hs⟩ := bind_some hs
 refine pl_call Bd31 rfl (c_spec_l1Cur__size13 (M := M) (code, 0, 0) (show BoxV _ a0 53 [(.slice pa0 pn0 pc0), (.int .i64 0), (.int .u64 0)] from b8) h0 b9 b9.fut c7) ?_
 rintro _ c8 ⟨rfl, a5, a9, c9⟩
 have hO := hO.perm (R := (([a0]) ++ ([])) ++ (([a1]) ++ ([]))) (by simp)
 have h0 := h0.mt a5 hO same_
 have a2 := a2.ap a5 hO same_ (mem_l (List.mem_singleton.2 rfl))
 have hC := hC.st a5 hO same_
 have hO := Own.join hO a5 c9
 have hO := hO.perm (R := [a0] ++ (([a1]) ++ ([]))) (by simp)
 have a9 : BoxV c8 a0 53 [(.slice pa0 pn0 pc0), (.int .i64 r5.2.1), (.int .u64 r5.2.2)] := a9
 refine pl_val (.int .i64 r5.1) (y_assign rfl) ?_
 refine c_nil ?_
 refine c_sr ?_
 refine pl_val (.int .i64 r5.1) (y_move rfl) ?_
 refine pl_val (.pointer (some ⟨a0, 0, none⟩)) (y_move rfl) ?_
 refine pl_val (.int .i64 r5.1) (y_move rfl) ?_
 have d0 := hO
 have c0 := Own.lend (F := (([a0]) ++ ([]))) (R := ([a1]) ++ ([])) (Own.perm (d0) (by simp))
 obtain ⟨r7, d1, hs⟩ := bind_some hs
 refine pl_call Bd70 rfl (c_spec_l1Cur__op18 (M := M) r5.1 (code, r5.2.1, r5.2.2) (show BoxV _ a0 53 [(.slice pa0 pn0 pc0), (.int .i64 r5.2.1), (.int .u64 r5.2.2)] from a9) h0 c0 c0.fut d1) ?_
 rintro _ d2 ⟨b0, b1, b2, c1, rfl, a6, b3, a7, d3⟩
 have hO := hO.perm (R := (([a0]) ++ ([])) ++ (([a1]) ++ ([]))) (by simp)
 have h0 := h0.mt a6 hO same_
 have a2 := a2.ap a6 hO same_ (mem_l (List.mem_singleton.2 rfl))
 have hC := hC.st a6 hO same_
 have hO := Own.join hO a6 d3
 have hO := hO.perm (R := c1 ++ ([a0] ++ (([a1]) ++ ([])))) (by simp)
 have a7 : BoxV d2 a0 53 [(.slice pa0 pn0 pc0), (.int .i64 r7.2.1), (.int .u64 r7.2.2)] := a7
 refine pl_val (.int .i64 r5.1) (y_assign rfl) ?_
 obtain ⟨c2, d4, a3, b4⟩ := box_store (P := Try.prog) a2 [] [(.int .i64 0), (.slice none 0 0)] [] [(.int .i64 r7.1.1), (.slice b0 b1 b2)] rfl rfl (by intro u hu; simp only [List.mem_cons, List.not_mem_nil, or_false] at hu; rcases hu with rfl | rfl <;> rfl)
 refine pl_skip (w' := c2) (ys_store rfl rfl (d4 _ _ rfl Sz27)) ?_
 have hO := hO.fr2
 have h0 := h0.mt a3 hO same_
 have a7 := a7.ap a3 hO same_ (mem_r (mem_l (List.mem_singleton.2 rfl)))
 have b3 := b3.ma a3 hO same_ (fun _ e => (mem_l (e)))
 have hC := hC.st a3 hO same_
 have hO := hO.ext a3
 have b4 : BoxV c2 a1 27 [(.int .i64 r7.1.1), (.slice b0 b1 b2)] := b4
 refine c_nil ?_
 refine wp_ret ?_
 cases hs
 have hO := hO.drop
 have hO := hO.fr1
 have hO := hO.drop
 exact ⟨_, a1, b0, b1, b2, c1, fr_ovl 15 ⟨rfl, rfl, trivial⟩, b4, hC, b3, hO.top⟩

theorem Bd43 : Bodied Try.prog 43 := bodied Try.func43 (by kernel_rfl) rfl

def k_spec_DrawIsPixleyOp (M : Nat → Prop) (w0 : World) (r : Int × (Int × (List Int))) (a : Act) (w : World) : Prop :=
  ∃ (σ : Nat → Value) (rg3 : Nat) (ra0 : Option Addr) (rn0 rc0 : Nat) (rf0 : List Nat), a = fr 8 (ovl σ [(2, (.int .i64 r.1)), (3, (.pointer (some ⟨rg3, 0, none⟩)))]) ∧ BoxV w rg3 27 [(.int .i64 r.2.1), (.slice ra0 rn0 rc0)] ∧ Chg [] w0 w ∧ (RT.os 3 (RT.int .i64)).val M w (.slice ra0 rn0 rc0) r.2.2 rf0 ∧ Own (Nw w0 []) (fun _ => True) w (rf0 ++ ([]))
def s_spec_DrawIsPixleyOp (code : List Int) : Option (Int × (Int × (List Int))) :=
  (s_spec_DrawIsDiscriminatorOp code).bind fun r4 =>
  some (r4.1, (r4.2.1, r4.2.2))
set_option maxHeartbeats 4000000 in
theorem c_spec_DrawIsPixleyOp {M : Nat → Prop} {w : World} {pa0 : Option Addr} {pn0 pc0 : Nat} (code : List Int) (h0 : (RT.rs (RT.int .u8)).val M w (.slice pa0 pn0 pc0) code ([])) (hM : ∀ g, w.heap.size ≤ g → M g) {r : Int × (Int × (List Int))} (hs : s_spec_DrawIsPixleyOp code = some r) :
    Gives Try.prog 15 [(.slice pa0 pn0 pc0)] w (fun v w' => ∃ (ra0 : Option Addr) (rn0 rc0 : Nat) (rf0 : List Nat), v = (.tuple #[(.int .i64 r.1), (.agg #[(.int .i64 r.2.1), (.slice ra0 rn0 rc0)])]) ∧ Chg [] w w' ∧ (RT.os 3 (RT.int .i64)).val M w' (.slice ra0 rn0 rc0) r.2.2 rf0 ∧ Own (Nw w []) (fun _ => True) w' (rf0 ++ ([]))) := by
 refine calls_fr Try.func15 rfl Try.ntmps15 (Nat.le_of_ble_eq_true rfl) ?_
 have hO := Own.start (N := Nw w []) hM Nw.fut
 have hC := Chg.refl [] w
 unfold s_spec_DrawIsPixleyOp at hs
 refine wp_mono (Q := KPost (k_spec_DrawIsPixleyOp M w r)) ?_ (fun e a b8 h => ?_)
 rotate_left
 ·cases e
  case ret =>
   obtain ⟨σ, rg3, ra0, rn0, rc0, rf0, rfl, hbrg3, hrest⟩ := h
   exact ret2x Try.results15 (res_tmp rfl) (res_cell rfl (box_load Ag27 Sz27 hbrg3 [] _ [] rfl rfl (fun h => nomatch h))) ⟨ra0, rn0, rc0, rf0, rfl, hrest⟩
  all_goals exact (h : False).elim
 refine c_sr ?_
 refine pl_val (.int .i64 0) (y_assign rfl) ?_
 obtain ⟨b3, a0, b4, b0, a7, a1⟩ := new_block w [(.int .i64 0), (.slice none 0 0)] 27
 refine pl_val (w' := b3) (.pointer (some ⟨a0, 0, none⟩)) (y_alloc (by rw [b4, b0]; kernel_rfl)) ?_
 have h0 := h0.ext a7
 have hC := hC.ext a7
 have hO := hO.new1 a7 b0 a1.lt
 refine c_nil ?_
 refine c_sr ?_
 refine pl_val (.slice pa0 pn0 pc0) (y_move rfl) ?_
 obtain ⟨r4, b5, hs⟩ := bind_some hs
 refine pl_call Bd43 rfl (c_spec_DrawIsDiscriminatorOp (M := M) code h0 hO.fut b5) ?_
 rintro _ b9 ⟨a2, a3, a4, b1, rfl, a5, a8, b6⟩
 have h0 := h0.ext a5
 have a1 := a1.cn a5
 have hC := hC.ext a5
 have hO := Own.join0 hO a5 b6
 have hO := hO.perm (R := b1 ++ (([a0]) ++ ([]))) (by simp)
 refine pl_val (.int .i64 r4.1) (y_extract rfl (by kernel_rfl)) ?_
 refine pl_val (.agg #[(.int .i64 r4.2.1), (.slice a2 a3 a4)]) (y_extract rfl (by kernel_rfl)) ?_
 refine pl_val (.int .i64 r4.1) (y_assign rfl) ?_
 obtain ⟨b2, b7, a6, a9⟩ := box_store (P := Try.prog) a1 [] [(.int .i64 0), (.slice none 0 0)] [] [(.int .i64 r4.2.1), (.slice a2 a3 a4)] rfl rfl (by intro u hu; simp only [List.mem_cons, List.not_mem_nil, or_false] at hu; rcases hu with rfl | rfl <;> rfl)
 refine pl_skip (w' := b2) (ys_store rfl rfl (b7 _ _ rfl Sz27)) ?_
 have hO := hO.fr1
 have h0 := h0.mt a6 hO same_
 have a8 := a8.ma a6 hO same_ (fun _ e => (mem_l (e)))
 have hC := hC.st a6 hO same_
 have hO := hO.ext a6
 have a9 : BoxV b2 a0 27 [(.int .i64 r4.2.1), (.slice a2 a3 a4)] := a9
 refine c_nil ?_
 refine wp_ret ?_
 cases hs
 have hO := hO.drop
 exact ⟨_, a0, a2, a3, a4, b1, fr_ovl 8 ⟨rfl, rfl, trivial⟩, a9, hC, a8, hO.top⟩

def k_spec_l2Op (M : Nat → Prop) (w0 : World) (r : Bool) (a : Act) (w : World) : Prop :=
  ∃ (σ : Nat → Value) , a = fr 36 (ovl σ [(4, (.bool r))]) ∧ Chg [] w0 w
def s_spec_l2Op (n : Int) (op : Int × (List Int)) : Option (Bool) :=
  ((s_spec_l1In op.1 0 3).bind fun r8 =>
  (bif (!r8) then some true else (s_spec_l2Pow n op.1).bind fun r11 =>
  some ((op.2.length : Int) != r11))).bind fun s3 =>
  (bif s3 then some false else (forC (S := Unit) (R := Bool) (fun k24 s22 =>
  (idx op.2 k24).bind fun x28 =>
  (s_spec_l1In x28 0 (w64 (n - 1))).bind fun r31 =>
  (bif (!r31) then some (.rt false) else some (.nx ()))) 0 (op.2.length : Int) ()).bind fun o26 => after o26 (fun r_ => some r_) (fun s22 =>
  some true))
set_option maxHeartbeats 4000000 in
theorem c_spec_l2Op {M : Nat → Prop} {w : World} {pa0 : Option Addr} {pn0 pc0 : Nat} (n : Int) (op : Int × (List Int)) (h0 : (RT.rs (RT.int .i64)).val M w (.slice pa0 pn0 pc0) op.2 ([])) (hM : ∀ g, w.heap.size ≤ g → M g) {r : Bool} (hs : s_spec_l2Op n op = some r) :
    Gives Try.prog 71 [(.int .i64 n), (.agg #[(.int .i64 op.1), (.slice pa0 pn0 pc0)])] w (fun v w' => v = (.bool r) ∧ Chg [] w w') := by
 refine calls_fr Try.func71 rfl Try.ntmps71 (Nat.le_of_ble_eq_true rfl) ?_
 have hO := Own.start (N := Nw w []) hM Nw.fut
 have hC := Chg.refl [] w
 unfold s_spec_l2Op at hs
 refine wp_mono (Q := KPost (k_spec_l2Op M w r)) ?_ (fun e a b9 h => ?_)
 rotate_left
 ·cases e
  case ret =>
   obtain ⟨σ, rfl, hrest⟩ := h
   exact ret1x Try.results71 (res_tmp rfl) ⟨rfl, hrest⟩
  all_goals exact (h : False).elim
 refine c_sr ?_
 obtain ⟨a9, a2, c0, b6, b3, a0⟩ := new_block w [(.int .i64 op.1), (.slice pa0 pn0 pc0)] 27
 refine pl_val (w' := a9) (.pointer (some ⟨a2, 0, none⟩)) (y_box rfl (by rw [c0, b6]; kernel_rfl)) ?_
 have h0 := h0.ext b3
 have hC := hC.ext b3
 have hO := hO.new1 b3 b6 a0.lt
 refine pl_val (.bool false) (y_assign rfl) ?_
 refine c_nil ?_
 refine c_seq ?_
 refine c_seq ?_
 obtain ⟨s3, c1, hs⟩ := bind_some hs
 refine c_mid (I := fun a b7 => ∃ (σ : Nat → Value), a = fr 36 (ovl σ [(0, (.int .i64 n)), (3, (.pointer (some ⟨a2, 0, none⟩))), (4, (.bool false)), (19, (.bool s3))]) ∧ Chg [] a9 b7) ?_ ?_
 ·replace hs := c1
  have hMid := Chg.refl [] a9
  refine x_start [] Mx rfl ?_
  have a8 := Chg.drew a9
  generalize World.drew a9 = c2 at a8 ⊢
  have h0 := h0.ext a8
  have a0 := a0.cn a8
  have hMid := hMid.ext a8
  have hC := hC.ext a8
  have hO := hO.ext a8
  have hS := Chg.refl [] c2
  refine x_p 0 (.pointer (some ⟨a2, 0, none⟩)) rfl (by kernel_rfl)  (fun _ => y_faddr rfl Fa27x0) (fun _ => hS) ?_
  refine x_l 1 (.int .i64 op.1) rfl (by kernel_rfl)  (fun w' hw' => y_load rfl ((box_load Ag3 Sz3 a0 [] [(.int .i64 op.1)] [(.slice pa0 pn0 pc0)] rfl rfl (fun _ => rfl)) w' hw')) hS ?_
  refine x_one (i := 2) (by kernel_rfl) ?_
  obtain ⟨r8, c3, hs⟩ := bind_some hs
  refine xk_call (b := false) rfl  Bd64 rfl (c_spec_l1In (M := M) op.1 0 3  hO.fut c3) rfl (by rintro _ _ _ ⟨rfl, a4⟩; exact hS.ext a4) ?_
  rintro _ d1 ⟨rfl, a4⟩
  have h0 := h0.ext a4
  have a0 := a0.cn a4
  have hMid := hMid.ext a4
  have hC := hC.ext a4
  have hO := hO.ext a4
  have hS := hS.ext a4
  refine x_p 3 (.bool (!r8)) rfl (by kernel_rfl)  (fun _ => y_not rfl) (fun _ => hS) ?_
  refine x_p 4 (.bool (!r8)) rfl (by kernel_rfl)  (fun _ => y_move rfl) (fun _ => hS) ?_
  rcases bif_some hs with ⟨a1, hs⟩ | ⟨a1, hs⟩
  ·skip
   refine x_pn 5 rfl (by kernel_rfl) (tg := 10) (by kernel_rfl) (congrArg Value.bool a1) (fun _ => hS) ?_
   refine x_pn 6 rfl (by kernel_rfl) (tg := 10) (by kernel_rfl) (congrArg Value.bool a1) (fun _ => hS) ?_
   refine x_pn 7 rfl (by kernel_rfl) (tg := 10) (by kernel_rfl) (congrArg Value.bool a1) (fun _ => hS) ?_
   refine x_pn 8 rfl (by kernel_rfl) (tg := 10) (by kernel_rfl) (congrArg Value.bool a1) (fun _ => hS) ?_
   refine x_pn 9 rfl (by kernel_rfl) (tg := 10) (by kernel_rfl) (congrArg Value.bool a1) (fun _ => hS) ?_
   refine x_pn 10 rfl (by kernel_rfl) (tg := 10) (by kernel_rfl) (congrArg Value.bool a1) (fun _ => hS) ?_
   refine x_pn 11 rfl (by kernel_rfl) (tg := 10) (by kernel_rfl) (congrArg Value.bool a1) (fun _ => hS) ?_
   refine x_pn 12 rfl (by kernel_rfl) (tg := 10) (by kernel_rfl) (congrArg Value.bool a1) (fun _ => hS) ?_
   refine x_p 13 (.bool true) rfl (by kernel_rfl)  (fun _ => y_pick_t (congrArg Value.bool a1) rfl) (fun _ => hS) ?_
   refine x_end (by kernel_rfl) ?_
   clear hS
   cases hs
   exact ⟨_, fr_ovl 36 ⟨rfl, rfl, rfl, rfl, trivial⟩, hMid⟩
  refine x_py 5 (.pointer (some ⟨a2, 1, none⟩)) rfl (by kernel_rfl) (tg := 10) (by kernel_rfl) (congrArg Value.bool a1) (fun _ => y_faddr rfl Fa27x1) (fun _ => hS) ?_
  refine x_py 8 (.int .i64 n) rfl (by kernel_rfl) (tg := 10) (by kernel_rfl) (congrArg Value.bool a1) (fun _ => y_move rfl) (fun _ => hS) ?_
  refine x_py 9 (.pointer (some ⟨a2, 0, none⟩)) rfl (by kernel_rfl) (tg := 10) (by kernel_rfl) (congrArg Value.bool a1) (fun _ => y_faddr rfl Fa27x0) (fun _ => hS) ?_
  refine x_two (i := 6) (j := 10) (by kernel_rfl) ?_ ?_
  ·skip
   refine xk_valy (b := false) (.slice pa0 pn0 pc0) rfl (tg := 10) (by kernel_rfl) (congrArg Value.bool a1) (y_load rfl ((box_load Ag25 Sz25 a0 [(.int .i64 op.1)] [(.slice pa0 pn0 pc0)] [] rfl rfl (fun _ => rfl)) _ (Chg.refl _ _))) rfl (fun _ => hS) ?_
   refine x_py 7 (.int .i64 (op.2.length : Int)) rfl (by kernel_rfl) (tg := 10) (by kernel_rfl) (congrArg Value.bool a1) (fun _ => y_len' Sl25 (rs_len h0) rfl) (fun _ => hS) ?_
   refine x_one (i := 10) (by kernel_rfl) ?_
   refine xk_valy (b := false) (.int .i64 op.1) rfl (tg := 10) (by kernel_rfl) (congrArg Value.bool a1) (y_load rfl ((box_load Ag3 Sz3 a0 [] [(.int .i64 op.1)] [(.slice pa0 pn0 pc0)] rfl rfl (fun _ => rfl)) _ (Chg.refl _ _))) rfl (fun _ => hS) ?_
   refine x_one (i := 11) (by kernel_rfl) ?_
   obtain ⟨r11, b0, hs⟩ := bind_some hs
   refine xk_cally (b := false) rfl (tg := 10) (by kernel_rfl) (congrArg Value.bool a1) Bd93 rfl (c_spec_l2Pow (M := M) n op.1  hO.fut b0) rfl (by rintro _ _ _ ⟨rfl, a5⟩; exact hS.ext a5) ?_
   rintro _ d2 ⟨rfl, a5⟩
   have h0 := h0.ext a5
   have a0 := a0.cn a5
   have hMid := hMid.ext a5
   have hC := hC.ext a5
   have hO := hO.ext a5
   have hS := hS.ext a5
   refine x_py 12 (.bool ((op.2.length : Int) != r11)) rfl (by kernel_rfl) (tg := 10) (by kernel_rfl) (congrArg Value.bool a1) (fun _ => y_neq rfl rfl) (fun _ => hS) ?_
   refine x_p 13 (.bool ((op.2.length : Int) != r11)) rfl (by kernel_rfl)  (fun _ => y_pick_f (congrArg Value.bool a1) rfl) (fun _ => hS) ?_
   refine x_end (by kernel_rfl) ?_
   clear hS
   cases hs
   exact ⟨_, fr_ovl 36 ⟨rfl, rfl, rfl, rfl, trivial⟩, hMid⟩
  ·skip
   refine xk_valy (b := false) (.int .i64 op.1) rfl (tg := 10) (by kernel_rfl) (congrArg Value.bool a1) (y_load rfl ((box_load Ag3 Sz3 a0 [] [(.int .i64 op.1)] [(.slice pa0 pn0 pc0)] rfl rfl (fun _ => rfl)) _ (Chg.refl _ _))) rfl (fun _ => hS) ?_
   refine x_two (i := 6) (j := 11) (by kernel_rfl) ?_ ?_
   ·skip
    refine xk_valy (b := false) (.slice pa0 pn0 pc0) rfl (tg := 10) (by kernel_rfl) (congrArg Value.bool a1) (y_load rfl ((box_load Ag25 Sz25 a0 [(.int .i64 op.1)] [(.slice pa0 pn0 pc0)] [] rfl rfl (fun _ => rfl)) _ (Chg.refl _ _))) rfl (fun _ => hS) ?_
    refine x_py 7 (.int .i64 (op.2.length : Int)) rfl (by kernel_rfl) (tg := 10) (by kernel_rfl) (congrArg Value.bool a1) (fun _ => y_len' Sl25 (rs_len h0) rfl) (fun _ => hS) ?_
    refine x_one (i := 11) (by kernel_rfl) ?_
    obtain ⟨r11, b0, hs⟩ := bind_some hs
    refine xk_cally (b := false) rfl (tg := 10) (by kernel_rfl) (congrArg Value.bool a1) Bd93 rfl (c_spec_l2Pow (M := M) n op.1  hO.fut b0) rfl (by rintro _ _ _ ⟨rfl, a6⟩; exact hS.ext a6) ?_
    rintro _ d3 ⟨rfl, a6⟩
    have h0 := h0.ext a6
    have a0 := a0.cn a6
    have hMid := hMid.ext a6
    have hC := hC.ext a6
    have hO := hO.ext a6
    have hS := hS.ext a6
    refine x_py 12 (.bool ((op.2.length : Int) != r11)) rfl (by kernel_rfl) (tg := 10) (by kernel_rfl) (congrArg Value.bool a1) (fun _ => y_neq rfl rfl) (fun _ => hS) ?_
    refine x_p 13 (.bool ((op.2.length : Int) != r11)) rfl (by kernel_rfl)  (fun _ => y_pick_f (congrArg Value.bool a1) rfl) (fun _ => hS) ?_
    refine x_end (by kernel_rfl) ?_
    clear hS
    cases hs
    exact ⟨_, fr_ovl 36 ⟨rfl, rfl, rfl, rfl, trivial⟩, hMid⟩
   ·skip
    obtain ⟨r11, b0, hs⟩ := bind_some hs
    refine xk_cally (b := false) rfl (tg := 10) (by kernel_rfl) (congrArg Value.bool a1) Bd93 rfl (c_spec_l2Pow (M := M) n op.1  hO.fut b0) rfl (by rintro _ _ _ ⟨rfl, a7⟩; exact hS.ext a7) ?_
    rintro _ d4 ⟨rfl, a7⟩
    have h0 := h0.ext a7
    have a0 := a0.cn a7
    have hMid := hMid.ext a7
    have hC := hC.ext a7
    have hO := hO.ext a7
    have hS := hS.ext a7
    refine x_one (i := 6) (by kernel_rfl) ?_
    refine xk_valy (b := false) (.slice pa0 pn0 pc0) rfl (tg := 10) (by kernel_rfl) (congrArg Value.bool a1) (y_load rfl ((box_load Ag25 Sz25 a0 [(.int .i64 op.1)] [(.slice pa0 pn0 pc0)] [] rfl rfl (fun _ => rfl)) _ (Chg.refl _ _))) rfl (fun _ => hS) ?_
    refine x_py 7 (.int .i64 (op.2.length : Int)) rfl (by kernel_rfl) (tg := 10) (by kernel_rfl) (congrArg Value.bool a1) (fun _ => y_len' Sl25 (rs_len h0) rfl) (fun _ => hS) ?_
    refine x_py 12 (.bool ((op.2.length : Int) != r11)) rfl (by kernel_rfl) (tg := 10) (by kernel_rfl) (congrArg Value.bool a1) (fun _ => y_neq rfl rfl) (fun _ => hS) ?_
    refine x_p 13 (.bool ((op.2.length : Int) != r11)) rfl (by kernel_rfl)  (fun _ => y_pick_f (congrArg Value.bool a1) rfl) (fun _ => hS) ?_
    refine x_end (by kernel_rfl) ?_
    clear hS
    cases hs
    exact ⟨_, fr_ovl 36 ⟨rfl, rfl, rfl, rfl, trivial⟩, hMid⟩
 rintro b8 b7 ⟨σ, rfl, b1⟩
 have h0 := h0.ext b1
 have a0 := a0.cn b1
 have hC := hC.ext b1
 have hO := hO.ext b1
 rcases bif_some hs with ⟨b4, hs⟩ | ⟨b4, hs⟩
 ·refine c_condT (congrArg Value.bool b4) ?_
  refine c_sr ?_
  refine pl_val (.bool false) (y_assign rfl) ?_
  refine c_nil ?_
  refine wp_ret ?_
  cases hs
  exact ⟨_, fr_ovl 36 ⟨rfl, trivial⟩, hC⟩
 refine c_condF (congrArg Value.bool b4) ?_
 refine wp_skip ?_
 refine c_seq ?_
 refine c_sr ?_
 refine pl_val (.int .i64 0) (y_assign rfl) ?_
 refine c_nil ?_
 obtain ⟨o26, c4, hs⟩ := bind_some hs
 refine wp_block ?_
 refine wp_forC (id := 0) (op.2.length : Int) (I := fun k24 s22 a a3 => ∃ (σ : Nat → Value), a = fr 36 (ovl σ [(0, (.int .i64 n)), (3, (.pointer (some ⟨a2, 0, none⟩))), (5, (.int .i64 k24))]) ∧ Chg [] w a3 ∧ Own (Nw w []) M a3 (([a2]) ++ []) ∧ (RT.rs (RT.int .i64)).val M a3 (.slice pa0 pn0 pc0) op.2 ([]) ∧ BoxV a3 a2 27 [(.int .i64 op.1), (.slice pa0 pn0 pc0)]) (J := fun s22 a a3 => ∃ (σ : Nat → Value), a = fr 36 (ovl σ []) ∧ Chg [] w a3 ∧ Own (Nw w []) M a3 (([a2]) ++ []) ∧ (RT.rs (RT.int .i64)).val M a3 (.slice pa0 pn0 pc0) op.2 ([]) ∧ BoxV a3 a2 27 [(.int .i64 op.1), (.slice pa0 pn0 pc0)]) (K := (k_spec_l2Op M w)) ?_ ?_ 0 () o26 _ _ ?_ c4 ?_
 ·rintro k24 s22 a a3 ⟨σ, rfl, hC, hO, h0, a0⟩ hlt
  refine c_seq ?_
  refine c_sr ?_
  refine pl_val (.int .i64 k24) (y_move rfl) ?_
  refine pl_val (.pointer (some ⟨a2, 1, none⟩)) (y_faddr rfl Fa27x1) ?_
  refine pl_val (.slice pa0 pn0 pc0) (y_load rfl ((box_load Ag25 Sz25 a0 [(.int .i64 op.1)] [(.slice pa0 pn0 pc0)] [] rfl rfl (fun _ => rfl)) _ (Chg.refl _ _))) ?_
  refine pl_val (.int .i64 (op.2.length : Int)) (y_len' Sl25 (rs_len h0) rfl) ?_
  refine pl_val (.bool (decide (k24 < (op.2.length : Int)))) (y_lss rfl rfl) ?_
  refine c_nil ?_
  refine c_condF (congrArg Value.bool (decide_eq_false hlt)) ?_
  refine wp_exit ?_
  exact ⟨rfl, _, fr_ovl 36 trivial, hC, hO, h0, a0⟩
 ·rintro k24 s22 o26 a a3 ⟨σ, rfl, hC, hO, h0, a0⟩ hlt hw hs
  refine c_seq ?_
  refine c_sr ?_
  refine pl_val (.int .i64 k24) (y_move rfl) ?_
  refine pl_val (.pointer (some ⟨a2, 1, none⟩)) (y_faddr rfl Fa27x1) ?_
  refine pl_val (.slice pa0 pn0 pc0) (y_load rfl ((box_load Ag25 Sz25 a0 [(.int .i64 op.1)] [(.slice pa0 pn0 pc0)] [] rfl rfl (fun _ => rfl)) _ (Chg.refl _ _))) ?_
  refine pl_val (.int .i64 (op.2.length : Int)) (y_len' Sl25 (rs_len h0) rfl) ?_
  refine pl_val (.bool (decide (k24 < (op.2.length : Int)))) (y_lss rfl rfl) ?_
  refine c_nil ?_
  refine c_condT (congrArg Value.bool (decide_eq_true hlt)) ?_
  refine wp_skip ?_
  refine c_seq ?_
  refine wp_block ?_
  refine c_sr ?_
  refine pl_val (.pointer (some ⟨a2, 1, none⟩)) (y_faddr rfl Fa27x1) ?_
  refine pl_val (.slice pa0 pn0 pc0) (y_load rfl ((box_load Ag25 Sz25 a0 [(.int .i64 op.1)] [(.slice pa0 pn0 pc0)] [] rfl rfl (fun _ => rfl)) _ (Chg.refl _ _))) ?_
  refine pl_val (.int .i64 k24) (y_move rfl) ?_
  obtain ⟨x28, c5, hs⟩ := bind_some hs
  obtain ⟨c6, c7, c8, c9⟩ := rs_idx Sl25 Sz3 h0 c5
  refine pl_val (.pointer (some ⟨c6, c7, none⟩)) (c8 _ _ _ _ _ _ _ _ _ rfl rfl) ?_
  refine pl_val (.int .i64 x28) (y_load rfl ((at_load_int Ag3 Sz3 c9) _ (Chg.refl _ _))) ?_
  refine pl_val (.int .i64 n) (y_move rfl) ?_
  refine pl_val (.int .i64 (w64 (n - 1))) (y_sub rfl rfl) ?_
  obtain ⟨r31, d0, hs⟩ := bind_some hs
  refine pl_call Bd64 rfl (c_spec_l1In (M := M) x28 0 (w64 (n - 1))  hO.fut d0) ?_
  rintro _ d5 ⟨rfl, b2⟩
  have h0 := h0.ext b2
  have a0 := a0.cn b2
  have hC := hC.ext b2
  have hO := hO.ext b2
  refine pl_val (.bool (!r31)) (y_not rfl) ?_
  refine c_nil ?_
  rcases bif_some hs with ⟨b5, hs⟩ | ⟨b5, hs⟩
  ·refine c_condT (congrArg Value.bool b5) ?_
   refine c_sr ?_
   refine pl_val (.bool false) (y_assign rfl) ?_
   refine c_nil ?_
   refine wp_ret ?_
   cases hs
   exact ⟨_, fr_ovl 36 ⟨rfl, trivial⟩, hC⟩
  refine c_condF (congrArg Value.bool b5) ?_
  refine wp_skip ?_
  refine c_region ?_
  refine pl_val (.int .i64 k24) (y_move rfl) ?_
  refine pl_val (.int .i64 (w64 (k24 + 1))) (y_add rfl rfl) ?_
  refine pl_val (.int .i64 (w64 (k24 + 1))) (y_assign rfl) ?_
  refine c_nil ?_
  cases hs
  exact ⟨_, fr_ovl 36 ⟨rfl, rfl, congrArg (Value.int .i64) hw, trivial⟩, hC, hO, h0, a0⟩
 ·skip
  exact ⟨_, fr_ovl 36 ⟨rfl, rfl, rfl, trivial⟩, hC, hO, h0, a0⟩
 cases o26 with
 | nx _ => exact True.intro
 | rt r_ =>
  have hs := after_rt hs
  intro b8 b9 hK
  cases hs
  exact hK
 | br s22 =>
  have hs := after_br hs
  rintro b8 a3 ⟨σ, rfl, hC, hO, h0, a0⟩
  refine c_sr ?_
  refine pl_val (.bool true) (y_assign rfl) ?_
  refine c_nil ?_
  refine wp_ret ?_
  cases hs
  exact ⟨_, fr_ovl 36 ⟨rfl, trivial⟩, hC⟩

theorem Bd71 : Bodied Try.prog 71 := bodied Try.func71 (by kernel_rfl) rfl

def k_spec_l18Takes (M : Nat → Prop) (w0 : World) (r : Bool) (a : Act) (w : World) : Prop :=
  ∃ (σ : Nat → Value) , a = fr 12 (ovl σ [(4, (.bool r))]) ∧ Chg [] w0 w
def s_spec_l18Takes (n : Int) (op : Int × (List Int)) : Option (Bool) :=
  (s_spec_l6Size n).bind fun r4 =>
  (bif r4 then (s_spec_l2Op n (op.1, op.2)).bind fun r7 =>
  some r7 else some false)
set_option maxHeartbeats 4000000 in
theorem c_spec_l18Takes {M : Nat → Prop} {w : World} {pa0 : Option Addr} {pn0 pc0 : Nat} (n : Int) (op : Int × (List Int)) (h0 : (RT.rs (RT.int .i64)).val M w (.slice pa0 pn0 pc0) op.2 ([])) (hM : ∀ g, w.heap.size ≤ g → M g) {r : Bool} (hs : s_spec_l18Takes n op = some r) :
    Gives Try.prog 44 [(.int .i64 n), (.agg #[(.int .i64 op.1), (.slice pa0 pn0 pc0)])] w (fun v w' => v = (.bool r) ∧ Chg [] w w') := by
 refine calls_fr Try.func44 rfl Try.ntmps44 (Nat.le_of_ble_eq_true rfl) ?_
 have hO := Own.start (N := Nw w []) hM Nw.fut
 have hC := Chg.refl [] w
 unfold s_spec_l18Takes at hs
 refine wp_mono (Q := KPost (k_spec_l18Takes M w r)) ?_ (fun e a b1 h => ?_)
 rotate_left
 ·cases e
  case ret =>
   obtain ⟨σ, rfl, hrest⟩ := h
   exact ret1x Try.results44 (res_tmp rfl) ⟨rfl, hrest⟩
  all_goals exact (h : False).elim
 refine c_sr ?_
 obtain ⟨a6, a7, a8, a5, a4, a1⟩ := new_block w [(.int .i64 op.1), (.slice pa0 pn0 pc0)] 27
 refine pl_val (w' := a6) (.pointer (some ⟨a7, 0, none⟩)) (y_box rfl (by rw [a8, a5]; kernel_rfl)) ?_
 have h0 := h0.ext a4
 have hC := hC.ext a4
 have hO := hO.new1 a4 a5 a1.lt
 refine pl_val (.bool false) (y_assign rfl) ?_
 refine c_nil ?_
 refine c_sr ?_
 refine pl_val (.int .i64 n) (y_move rfl) ?_
 obtain ⟨r4, a9, hs⟩ := bind_some hs
 refine pl_call Bd34 rfl (c_spec_l6Size (M := M) n  hO.fut a9) ?_
 rintro _ b2 ⟨rfl, a2⟩
 have h0 := h0.ext a2
 have a1 := a1.cn a2
 have hC := hC.ext a2
 have hO := hO.ext a2
 refine pl_val (.bool r4) (y_move rfl) ?_
 rcases bif_some hs with ⟨a0, hs⟩ | ⟨a0, hs⟩
 ·skip
  refine pl_yes (.int .i64 n) (tg := 7) (by kernel_rfl) (congrArg Value.bool a0) (y_move rfl) ?_
  refine pl_yes (.agg #[(.int .i64 op.1), (.slice pa0 pn0 pc0)]) (tg := 7) (by kernel_rfl) (congrArg Value.bool a0) (y_load rfl ((box_load Ag27 Sz27 a1 [] [(.int .i64 op.1), (.slice pa0 pn0 pc0)] [] rfl rfl (fun h => nomatch h)) _ (Chg.refl _ _))) ?_
  obtain ⟨r7, b0, hs⟩ := bind_some hs
  refine pl_cally (tg := 7) (by kernel_rfl) (congrArg Value.bool a0) Bd71 rfl (c_spec_l2Op (M := M) n (op.1, op.2) h0 hO.fut b0) ?_
  rintro _ b3 ⟨rfl, a3⟩
  have h0 := h0.ext a3
  have a1 := a1.cn a3
  have hC := hC.ext a3
  have hO := hO.ext a3
  refine pl_val (.bool r7) (y_pick_t (congrArg Value.bool a0) rfl) ?_
  refine pl_val (.bool r7) (y_assign rfl) ?_
  refine c_nil ?_
  refine wp_ret ?_
  cases hs
  exact ⟨_, fr_ovl 12 ⟨rfl, trivial⟩, hC⟩
 refine pl_not (tg := 7) (by kernel_rfl) (congrArg Value.bool a0) ?_
 refine pl_not (tg := 7) (by kernel_rfl) (congrArg Value.bool a0) ?_
 refine pl_not (tg := 7) (by kernel_rfl) (congrArg Value.bool a0) ?_
 refine pl_val (.bool false) (y_pick_f (congrArg Value.bool a0) rfl) ?_
 refine pl_val (.bool false) (y_assign rfl) ?_
 refine c_nil ?_
 refine wp_ret ?_
 cases hs
 exact ⟨_, fr_ovl 12 ⟨rfl, trivial⟩, hC⟩

def k_spec_l18At (M : Nat → Prop) (w0 : World) (r : Int) (a : Act) (w : World) : Prop :=
  ∃ (σ : Nat → Value) , a = fr 24 (ovl σ [(10, (.int .i64 r))]) ∧ Chg [] w0 w
def s_spec_l18At (n : Int) (op : Int × (List Int)) (x_ : Int) (y : Int) (z : Int) : Option (Int) :=
  (idx op.2 (w64 ((w64 ((w64 ((w64 (x_ * n)) + y)) * n)) + z))).bind fun x3 =>
  some x3
set_option maxHeartbeats 4000000 in
theorem c_spec_l18At {M : Nat → Prop} {w : World} {pa0 : Option Addr} {pn0 pc0 : Nat} (n : Int) (op : Int × (List Int)) (x_ : Int) (y : Int) (z : Int) (h0 : (RT.rs (RT.int .i64)).val M w (.slice pa0 pn0 pc0) op.2 ([])) (hM : ∀ g, w.heap.size ≤ g → M g) {r : Int} (hs : s_spec_l18At n op x_ y z = some r) :
    Gives Try.prog 45 [(.int .i64 n), (.agg #[(.int .i64 op.1), (.slice pa0 pn0 pc0)]), (.int .i64 x_), (.int .i64 y), (.int .i64 z)] w (fun v w' => v = (.int .i64 r) ∧ Chg [] w w') := by
 refine calls_fr Try.func45 rfl Try.ntmps45 (Nat.le_of_ble_eq_true rfl) ?_
 have hO := Own.start (N := Nw w []) hM Nw.fut
 have hC := Chg.refl [] w
 unfold s_spec_l18At at hs
 refine wp_mono (Q := KPost (k_spec_l18At M w r)) ?_ (fun e a b1 h => ?_)
 rotate_left
 ·cases e
  case ret =>
   obtain ⟨σ, rfl, hrest⟩ := h
   exact ret1x Try.results45 (res_tmp rfl) ⟨rfl, hrest⟩
  all_goals exact (h : False).elim
 refine c_sr ?_
 obtain ⟨a4, a1, a5, a2, a0, a3⟩ := new_block w [(.int .i64 op.1), (.slice pa0 pn0 pc0)] 27
 refine pl_val (w' := a4) (.pointer (some ⟨a1, 0, none⟩)) (y_box rfl (by rw [a5, a2]; kernel_rfl)) ?_
 have h0 := h0.ext a0
 have hC := hC.ext a0
 have hO := hO.new1 a0 a2 a3.lt
 refine pl_val (.int .i64 0) (y_assign rfl) ?_
 refine c_nil ?_
 refine c_sr ?_
 refine pl_val (.pointer (some ⟨a1, 1, none⟩)) (y_faddr rfl Fa27x1) ?_
 refine pl_val (.slice pa0 pn0 pc0) (y_load rfl ((box_load Ag25 Sz25 a3 [(.int .i64 op.1)] [(.slice pa0 pn0 pc0)] [] rfl rfl (fun _ => rfl)) _ (Chg.refl _ _))) ?_
 refine pl_val (.int .i64 x_) (y_move rfl) ?_
 refine pl_val (.int .i64 n) (y_move rfl) ?_
 refine pl_val (.int .i64 (w64 (x_ * n))) (y_mul rfl rfl) ?_
 refine pl_val (.int .i64 y) (y_move rfl) ?_
 refine pl_val (.int .i64 (w64 ((w64 (x_ * n)) + y))) (y_add rfl rfl) ?_
 refine pl_val (.int .i64 n) (y_move rfl) ?_
 refine pl_val (.int .i64 (w64 ((w64 ((w64 (x_ * n)) + y)) * n))) (y_mul rfl rfl) ?_
 refine pl_val (.int .i64 z) (y_move rfl) ?_
 refine pl_val (.int .i64 (w64 ((w64 ((w64 ((w64 (x_ * n)) + y)) * n)) + z))) (y_add rfl rfl) ?_
 obtain ⟨x3, a6, hs⟩ := bind_some hs
 obtain ⟨a7, a8, a9, b0⟩ := rs_idx Sl25 Sz3 h0 a6
 refine pl_val (.pointer (some ⟨a7, a8, none⟩)) (a9 _ _ _ _ _ _ _ _ _ rfl rfl) ?_
 refine pl_val (.int .i64 x3) (y_load rfl ((at_load_int Ag3 Sz3 b0) _ (Chg.refl _ _))) ?_
 refine pl_val (.int .i64 x3) (y_assign rfl) ?_
 refine c_nil ?_
 refine wp_ret ?_
 cases hs
 exact ⟨_, fr_ovl 24 ⟨rfl, trivial⟩, hC⟩

theorem Bd44 : Bodied Try.prog 44 := bodied Try.func44 (by kernel_rfl) rfl

theorem Bd45 : Bodied Try.prog 45 := bodied Try.func45 (by kernel_rfl) rfl

def k_spec_IsPixleyOp (M : Nat → Prop) (w0 : World) (r : Bool × Bool) (a : Act) (w : World) : Prop :=
  ∃ (σ : Nat → Value) , a = fr 53 (ovl σ [(4, (.bool r.1)), (5, (.bool r.2))]) ∧ Chg [] w0 w
def s_spec_IsPixleyOp (n : Int) (op : Int × (List Int)) : Option (Bool × Bool) :=
  (s_spec_l18Takes n (op.1, op.2)).bind fun r4 =>
  (bif (!r4) then some (false, false) else (bif (op.1 != 3) then some (false, true) else (forC (S := Unit) (R := Bool × Bool) (fun k39 s37 =>
  (forC (S := Unit) (R := Bool × Bool) (fun k57 s55 =>
  ((s_spec_l18At n (op.1, op.2) k39 k57 k57).bind fun r66 =>
  (bif (r66 != k39) then some true else (s_spec_l18At n (op.1, op.2) k39 k57 k39).bind fun r69 =>
  (bif (r69 != k39) then some true else (s_spec_l18At n (op.1, op.2) k39 k39 k57).bind fun r72 =>
  some (r72 != k57)))).bind fun s61 =>
  (bif s61 then some (.rt (false, true)) else some (.nx ()))) 0 n ()).bind fun o59 => after o59 (fun r_ => some (.rt r_)) (fun s55 =>
  some (.nx ()))) 0 n ()).bind fun o41 => after o41 (fun r_ => some r_) (fun s37 =>
  some (true, true))))
set_option maxHeartbeats 4000000 in
theorem c_spec_IsPixleyOp {M : Nat → Prop} {w : World} {pa0 : Option Addr} {pn0 pc0 : Nat} (n : Int) (op : Int × (List Int)) (h0 : (RT.rs (RT.int .i64)).val M w (.slice pa0 pn0 pc0) op.2 ([])) (hM : ∀ g, w.heap.size ≤ g → M g) {r : Bool × Bool} (hs : s_spec_IsPixleyOp n op = some r) :
    Gives Try.prog 16 [(.int .i64 n), (.agg #[(.int .i64 op.1), (.slice pa0 pn0 pc0)])] w (fun v w' => v = (.tuple #[(.bool r.1), (.bool r.2)]) ∧ Chg [] w w') := by
 refine calls_fr Try.func16 rfl Try.ntmps16 (Nat.le_of_ble_eq_true rfl) ?_
 have hO := Own.start (N := Nw w []) hM Nw.fut
 have hC := Chg.refl [] w
 unfold s_spec_IsPixleyOp at hs
 refine wp_mono (Q := KPost (k_spec_IsPixleyOp M w r)) ?_ (fun e a b6 h => ?_)
 rotate_left
 ·cases e
  case ret =>
   obtain ⟨σ, rfl, hrest⟩ := h
   exact ret2x Try.results16 (res_tmp rfl) (res_tmp rfl) ⟨rfl, hrest⟩
  all_goals exact (h : False).elim
 refine c_sr ?_
 obtain ⟨b9, a3, c0, b7, b2, a0⟩ := new_block w [(.int .i64 op.1), (.slice pa0 pn0 pc0)] 27
 refine pl_val (w' := b9) (.pointer (some ⟨a3, 0, none⟩)) (y_box rfl (by rw [c0, b7]; kernel_rfl)) ?_
 have h0 := h0.ext b2
 have hC := hC.ext b2
 have hO := hO.new1 b2 b7 a0.lt
 refine pl_val (.bool false) (y_assign rfl) ?_
 refine pl_val (.bool false) (y_assign rfl) ?_
 refine c_nil ?_
 refine c_seq ?_
 refine c_sr ?_
 refine pl_val (.int .i64 n) (y_move rfl) ?_
 refine pl_val (.agg #[(.int .i64 op.1), (.slice pa0 pn0 pc0)]) (y_load rfl ((box_load Ag27 Sz27 a0 [] [(.int .i64 op.1), (.slice pa0 pn0 pc0)] [] rfl rfl (fun h => nomatch h)) _ (Chg.refl _ _))) ?_
 obtain ⟨r4, c1, hs⟩ := bind_some hs
 refine pl_call Bd44 rfl (c_spec_l18Takes (M := M) n (op.1, op.2) h0 hO.fut c1) ?_
 rintro _ c8 ⟨rfl, a9⟩
 have h0 := h0.ext a9
 have a0 := a0.cn a9
 have hC := hC.ext a9
 have hO := hO.ext a9
 refine pl_val (.bool (!r4)) (y_not rfl) ?_
 refine c_nil ?_
 rcases bif_some hs with ⟨b3, hs⟩ | ⟨b3, hs⟩
 ·refine c_condT (congrArg Value.bool b3) ?_
  refine c_sr ?_
  refine pl_val (.bool false) (y_assign rfl) ?_
  refine pl_val (.bool false) (y_assign rfl) ?_
  refine c_nil ?_
  refine wp_ret ?_
  cases hs
  exact ⟨_, fr_ovl 53 ⟨rfl, rfl, trivial⟩, hC⟩
 refine c_condF (congrArg Value.bool b3) ?_
 refine wp_skip ?_
 refine c_seq ?_
 refine c_sr ?_
 refine pl_val (.pointer (some ⟨a3, 0, none⟩)) (y_faddr rfl Fa27x0) ?_
 refine pl_val (.int .i64 op.1) (y_load rfl ((box_load Ag3 Sz3 a0 [] [(.int .i64 op.1)] [(.slice pa0 pn0 pc0)] rfl rfl (fun _ => rfl)) _ (Chg.refl _ _))) ?_
 refine pl_val (.bool (op.1 != 3)) (y_neq rfl rfl) ?_
 refine c_nil ?_
 rcases bif_some hs with ⟨b4, hs⟩ | ⟨b4, hs⟩
 ·refine c_condT (congrArg Value.bool b4) ?_
  refine c_sr ?_
  refine pl_val (.bool false) (y_assign rfl) ?_
  refine pl_val (.bool true) (y_assign rfl) ?_
  refine c_nil ?_
  refine wp_ret ?_
  cases hs
  exact ⟨_, fr_ovl 53 ⟨rfl, rfl, trivial⟩, hC⟩
 refine c_condF (congrArg Value.bool b4) ?_
 refine wp_skip ?_
 refine c_seq ?_
 refine c_sr ?_
 refine pl_val (.int .i64 0) (y_assign rfl) ?_
 refine c_nil ?_
 obtain ⟨o41, c2, hs⟩ := bind_some hs
 refine wp_block ?_
 refine wp_forC (id := 0) n (I := fun k39 s37 a a5 => ∃ (σ : Nat → Value), a = fr 53 (ovl σ [(0, (.int .i64 n)), (3, (.pointer (some ⟨a3, 0, none⟩))), (6, (.int .i64 k39))]) ∧ Chg [] w a5 ∧ Own (Nw w []) M a5 (([a3]) ++ []) ∧ (RT.rs (RT.int .i64)).val M a5 (.slice pa0 pn0 pc0) op.2 ([]) ∧ BoxV a5 a3 27 [(.int .i64 op.1), (.slice pa0 pn0 pc0)]) (J := fun s37 a a5 => ∃ (σ : Nat → Value), a = fr 53 (ovl σ []) ∧ Chg [] w a5 ∧ Own (Nw w []) M a5 (([a3]) ++ []) ∧ (RT.rs (RT.int .i64)).val M a5 (.slice pa0 pn0 pc0) op.2 ([]) ∧ BoxV a5 a3 27 [(.int .i64 op.1), (.slice pa0 pn0 pc0)]) (K := (k_spec_IsPixleyOp M w)) ?_ ?_ 0 () o41 _ _ ?_ c2 ?_
 ·rintro k39 s37 a a5 ⟨σ, rfl, hC, hO, h0, a0⟩ hlt
  refine c_seq ?_
  refine c_sr ?_
  refine pl_val (.int .i64 k39) (y_move rfl) ?_
  refine pl_val (.int .i64 n) (y_move rfl) ?_
  refine pl_val (.bool (decide (k39 < n))) (y_lss rfl rfl) ?_
  refine c_nil ?_
  refine c_condF (congrArg Value.bool (decide_eq_false hlt)) ?_
  refine wp_exit ?_
  exact ⟨rfl, _, fr_ovl 53 trivial, hC, hO, h0, a0⟩
 ·rintro k39 s37 o41 a a5 ⟨σ, rfl, hC, hO, h0, a0⟩ hlt hw hs
  refine c_seq ?_
  refine c_sr ?_
  refine pl_val (.int .i64 k39) (y_move rfl) ?_
  refine pl_val (.int .i64 n) (y_move rfl) ?_
  refine pl_val (.bool (decide (k39 < n))) (y_lss rfl rfl) ?_
  refine c_nil ?_
  refine c_condT (congrArg Value.bool (decide_eq_true hlt)) ?_
  refine wp_skip ?_
  refine c_seq ?_
  refine wp_block ?_
  refine c_sr ?_
  refine pl_val (.int .i64 0) (y_assign rfl) ?_
  refine c_nil ?_
  obtain ⟨o59, c3, hs⟩ := bind_some hs
  refine wp_block ?_
  refine wp_forC (id := 2) n (I := fun k57 s55 a a4 => ∃ (σ : Nat → Value), a = fr 53 (ovl σ [(0, (.int .i64 n)), (3, (.pointer (some ⟨a3, 0, none⟩))), (6, (.int .i64 k39)), (7, (.int .i64 k57))]) ∧ Chg [] w a4 ∧ Own (Nw w []) M a4 (([a3]) ++ []) ∧ (RT.rs (RT.int .i64)).val M a4 (.slice pa0 pn0 pc0) op.2 ([]) ∧ BoxV a4 a3 27 [(.int .i64 op.1), (.slice pa0 pn0 pc0)]) (J := fun s55 a a4 => ∃ (σ : Nat → Value), a = fr 53 (ovl σ [(0, (.int .i64 n)), (3, (.pointer (some ⟨a3, 0, none⟩))), (6, (.int .i64 k39))]) ∧ Chg [] w a4 ∧ Own (Nw w []) M a4 (([a3]) ++ []) ∧ (RT.rs (RT.int .i64)).val M a4 (.slice pa0 pn0 pc0) op.2 ([]) ∧ BoxV a4 a3 27 [(.int .i64 op.1), (.slice pa0 pn0 pc0)]) (K := (k_spec_IsPixleyOp M w)) ?_ ?_ 0 () o59 _ _ ?_ c3 ?_
  ·rintro k57 s55 a a4 ⟨σ, rfl, hC, hO, h0, a0⟩ hlt
   refine c_seq ?_
   refine c_sr ?_
   refine pl_val (.int .i64 k57) (y_move rfl) ?_
   refine pl_val (.int .i64 n) (y_move rfl) ?_
   refine pl_val (.bool (decide (k57 < n))) (y_lss rfl rfl) ?_
   refine c_nil ?_
   refine c_condF (congrArg Value.bool (decide_eq_false hlt)) ?_
   refine wp_exit ?_
   exact ⟨rfl, _, fr_ovl 53 ⟨rfl, rfl, rfl, trivial⟩, hC, hO, h0, a0⟩
  ·rintro k57 s55 o59 a a4 ⟨σ, rfl, hC, hO, h0, a0⟩ hlt hw hs
   refine c_seq ?_
   refine c_sr ?_
   refine pl_val (.int .i64 k57) (y_move rfl) ?_
   refine pl_val (.int .i64 n) (y_move rfl) ?_
   refine pl_val (.bool (decide (k57 < n))) (y_lss rfl rfl) ?_
   refine c_nil ?_
   refine c_condT (congrArg Value.bool (decide_eq_true hlt)) ?_
   refine wp_skip ?_
   refine c_seq ?_
   refine wp_block ?_
   refine c_seq ?_
   obtain ⟨s61, c4, hs⟩ := bind_some hs
   refine c_mid (I := fun a b8 => ∃ (σ : Nat → Value), a = fr 53 (ovl σ [(0, (.int .i64 n)), (3, (.pointer (some ⟨a3, 0, none⟩))), (6, (.int .i64 k39)), (7, (.int .i64 k57)), (52, (.bool s61))]) ∧ Chg [] a4 b8) ?_ ?_
   ·replace hs := c4
    have hMid := Chg.refl [] a4
    refine c_region ?_
    refine pl_val (.int .i64 n) (y_move rfl) ?_
    refine pl_val (.agg #[(.int .i64 op.1), (.slice pa0 pn0 pc0)]) (y_load rfl ((box_load Ag27 Sz27 a0 [] [(.int .i64 op.1), (.slice pa0 pn0 pc0)] [] rfl rfl (fun h => nomatch h)) _ (Chg.refl _ _))) ?_
    refine pl_val (.int .i64 k39) (y_move rfl) ?_
    refine pl_val (.int .i64 k57) (y_move rfl) ?_
    refine pl_val (.int .i64 k57) (y_move rfl) ?_
    obtain ⟨r66, c5, hs⟩ := bind_some hs
    refine pl_call Bd45 rfl (c_spec_l18At (M := M) n (op.1, op.2) k39 k57 k57 h0 hO.fut c5) ?_
    rintro _ c9 ⟨rfl, a6⟩
    have h0 := h0.ext a6
    have a0 := a0.cn a6
    have hMid := hMid.ext a6
    have hC := hC.ext a6
    have hO := hO.ext a6
    refine pl_val (.int .i64 k39) (y_move rfl) ?_
    refine pl_val (.bool (r66 != k39)) (y_neq rfl rfl) ?_
    refine pl_val (.bool (r66 != k39)) (y_move rfl) ?_
    rcases bif_some hs with ⟨a1, hs⟩ | ⟨a1, hs⟩
    ·skip
     refine pl_not (tg := 33) (by kernel_rfl) (congrArg Value.bool a1) ?_
     refine pl_not (tg := 33) (by kernel_rfl) (congrArg Value.bool a1) ?_
     refine pl_not (tg := 33) (by kernel_rfl) (congrArg Value.bool a1) ?_
     refine pl_not (tg := 33) (by kernel_rfl) (congrArg Value.bool a1) ?_
     refine pl_not (tg := 33) (by kernel_rfl) (congrArg Value.bool a1) ?_
     refine pl_not (tg := 33) (by kernel_rfl) (congrArg Value.bool a1) ?_
     refine pl_not (tg := 33) (by kernel_rfl) (congrArg Value.bool a1) ?_
     refine pl_not (tg := 33) (by kernel_rfl) (congrArg Value.bool a1) ?_
     refine pl_val (.bool true) (y_pick_t (congrArg Value.bool a1) rfl) ?_
     refine pl_val (.bool true) (y_move rfl) ?_
     refine pl_not (tg := 43) (by kernel_rfl) (by rfl) ?_
     refine pl_not (tg := 43) (by kernel_rfl) (by rfl) ?_
     refine pl_not (tg := 43) (by kernel_rfl) (by rfl) ?_
     refine pl_not (tg := 43) (by kernel_rfl) (by rfl) ?_
     refine pl_not (tg := 43) (by kernel_rfl) (by rfl) ?_
     refine pl_not (tg := 43) (by kernel_rfl) (by rfl) ?_
     refine pl_not (tg := 43) (by kernel_rfl) (by rfl) ?_
     refine pl_not (tg := 43) (by kernel_rfl) (by rfl) ?_
     refine pl_val (.bool true) (y_pick_t (by rfl) rfl) ?_
     refine c_nil ?_
     cases hs
     exact ⟨_, fr_ovl 53 ⟨rfl, rfl, rfl, rfl, rfl, trivial⟩, hMid⟩
    refine pl_yes (.int .i64 n) (tg := 33) (by kernel_rfl) (congrArg Value.bool a1) (y_move rfl) ?_
    refine pl_yes (.agg #[(.int .i64 op.1), (.slice pa0 pn0 pc0)]) (tg := 33) (by kernel_rfl) (congrArg Value.bool a1) (y_load rfl ((box_load Ag27 Sz27 a0 [] [(.int .i64 op.1), (.slice pa0 pn0 pc0)] [] rfl rfl (fun h => nomatch h)) _ (Chg.refl _ _))) ?_
    refine pl_yes (.int .i64 k39) (tg := 33) (by kernel_rfl) (congrArg Value.bool a1) (y_move rfl) ?_
    refine pl_yes (.int .i64 k57) (tg := 33) (by kernel_rfl) (congrArg Value.bool a1) (y_move rfl) ?_
    refine pl_yes (.int .i64 k39) (tg := 33) (by kernel_rfl) (congrArg Value.bool a1) (y_move rfl) ?_
    obtain ⟨r69, c6, hs⟩ := bind_some hs
    refine pl_cally (tg := 33) (by kernel_rfl) (congrArg Value.bool a1) Bd45 rfl (c_spec_l18At (M := M) n (op.1, op.2) k39 k57 k39 h0 hO.fut c6) ?_
    rintro _ d0 ⟨rfl, a7⟩
    have h0 := h0.ext a7
    have a0 := a0.cn a7
    have hMid := hMid.ext a7
    have hC := hC.ext a7
    have hO := hO.ext a7
    refine pl_yes (.int .i64 k39) (tg := 33) (by kernel_rfl) (congrArg Value.bool a1) (y_move rfl) ?_
    refine pl_yes (.bool (r69 != k39)) (tg := 33) (by kernel_rfl) (congrArg Value.bool a1) (y_neq rfl rfl) ?_
    refine pl_val (.bool (r69 != k39)) (y_pick_f (congrArg Value.bool a1) rfl) ?_
    refine pl_val (.bool (r69 != k39)) (y_move rfl) ?_
    rcases bif_some hs with ⟨a2, hs⟩ | ⟨a2, hs⟩
    ·skip
     refine pl_not (tg := 43) (by kernel_rfl) (congrArg Value.bool a2) ?_
     refine pl_not (tg := 43) (by kernel_rfl) (congrArg Value.bool a2) ?_
     refine pl_not (tg := 43) (by kernel_rfl) (congrArg Value.bool a2) ?_
     refine pl_not (tg := 43) (by kernel_rfl) (congrArg Value.bool a2) ?_
     refine pl_not (tg := 43) (by kernel_rfl) (congrArg Value.bool a2) ?_
     refine pl_not (tg := 43) (by kernel_rfl) (congrArg Value.bool a2) ?_
     refine pl_not (tg := 43) (by kernel_rfl) (congrArg Value.bool a2) ?_
     refine pl_not (tg := 43) (by kernel_rfl) (congrArg Value.bool a2) ?_
     refine pl_val (.bool true) (y_pick_t (congrArg Value.bool a2) rfl) ?_
     refine c_nil ?_
     cases hs
     exact ⟨_, fr_ovl 53 ⟨rfl, rfl, rfl, rfl, rfl, trivial⟩, hMid⟩
    refine pl_yes (.int .i64 n) (tg := 43) (by kernel_rfl) (congrArg Value.bool a2) (y_move rfl) ?_
    refine pl_yes (.agg #[(.int .i64 op.1), (.slice pa0 pn0 pc0)]) (tg := 43) (by kernel_rfl) (congrArg Value.bool a2) (y_load rfl ((box_load Ag27 Sz27 a0 [] [(.int .i64 op.1), (.slice pa0 pn0 pc0)] [] rfl rfl (fun h => nomatch h)) _ (Chg.refl _ _))) ?_
    refine pl_yes (.int .i64 k39) (tg := 43) (by kernel_rfl) (congrArg Value.bool a2) (y_move rfl) ?_
    refine pl_yes (.int .i64 k39) (tg := 43) (by kernel_rfl) (congrArg Value.bool a2) (y_move rfl) ?_
    refine pl_yes (.int .i64 k57) (tg := 43) (by kernel_rfl) (congrArg Value.bool a2) (y_move rfl) ?_
    obtain ⟨r72, c7, hs⟩ := bind_some hs
    refine pl_cally (tg := 43) (by kernel_rfl) (congrArg Value.bool a2) Bd45 rfl (c_spec_l18At (M := M) n (op.1, op.2) k39 k39 k57 h0 hO.fut c7) ?_
    rintro _ d1 ⟨rfl, a8⟩
    have h0 := h0.ext a8
    have a0 := a0.cn a8
    have hMid := hMid.ext a8
    have hC := hC.ext a8
    have hO := hO.ext a8
    refine pl_yes (.int .i64 k57) (tg := 43) (by kernel_rfl) (congrArg Value.bool a2) (y_move rfl) ?_
    refine pl_yes (.bool (r72 != k57)) (tg := 43) (by kernel_rfl) (congrArg Value.bool a2) (y_neq rfl rfl) ?_
    refine pl_val (.bool (r72 != k57)) (y_pick_f (congrArg Value.bool a2) rfl) ?_
    refine c_nil ?_
    cases hs
    exact ⟨_, fr_ovl 53 ⟨rfl, rfl, rfl, rfl, rfl, trivial⟩, hMid⟩
   rintro b0 b8 ⟨σ, rfl, b1⟩
   have h0 := h0.ext b1
   have a0 := a0.cn b1
   have hC := hC.ext b1
   have hO := hO.ext b1
   rcases bif_some hs with ⟨b5, hs⟩ | ⟨b5, hs⟩
   ·refine c_condT (congrArg Value.bool b5) ?_
    refine c_sr ?_
    refine pl_val (.bool false) (y_assign rfl) ?_
    refine pl_val (.bool true) (y_assign rfl) ?_
    refine c_nil ?_
    refine wp_ret ?_
    cases hs
    exact ⟨_, fr_ovl 53 ⟨rfl, rfl, trivial⟩, hC⟩
   refine c_condF (congrArg Value.bool b5) ?_
   refine wp_skip ?_
   refine c_region ?_
   refine pl_val (.int .i64 k57) (y_move rfl) ?_
   refine pl_val (.int .i64 (w64 (k57 + 1))) (y_add rfl rfl) ?_
   refine pl_val (.int .i64 (w64 (k57 + 1))) (y_assign rfl) ?_
   refine c_nil ?_
   cases hs
   exact ⟨_, fr_ovl 53 ⟨rfl, rfl, rfl, congrArg (Value.int .i64) hw, trivial⟩, hC, hO, h0, a0⟩
  ·skip
   exact ⟨_, fr_ovl 53 ⟨rfl, rfl, rfl, rfl, trivial⟩, hC, hO, h0, a0⟩
  cases o59 with
  | nx _ => exact True.intro
  | rt r_ =>
   have hs := after_rt hs
   intro b0 b6 hK
   cases hs
   exact hK
  | br s55 =>
   have hs := after_br hs
   rintro b0 a4 ⟨σ, rfl, hC, hO, h0, a0⟩
   refine c_region ?_
   refine pl_val (.int .i64 k39) (y_move rfl) ?_
   refine pl_val (.int .i64 (w64 (k39 + 1))) (y_add rfl rfl) ?_
   refine pl_val (.int .i64 (w64 (k39 + 1))) (y_assign rfl) ?_
   refine c_nil ?_
   cases hs
   exact ⟨_, fr_ovl 53 ⟨rfl, rfl, congrArg (Value.int .i64) hw, trivial⟩, hC, hO, h0, a0⟩
 ·skip
  exact ⟨_, fr_ovl 53 ⟨rfl, rfl, rfl, trivial⟩, hC, hO, h0, a0⟩
 cases o41 with
 | nx _ => exact True.intro
 | rt r_ =>
  have hs := after_rt hs
  intro b0 b6 hK
  cases hs
  exact hK
 | br s37 =>
  have hs := after_br hs
  rintro b0 a5 ⟨σ, rfl, hC, hO, h0, a0⟩
  refine c_sr ?_
  refine pl_val (.bool true) (y_assign rfl) ?_
  refine pl_val (.bool true) (y_assign rfl) ?_
  refine c_nil ?_
  refine wp_ret ?_
  cases hs
  exact ⟨_, fr_ovl 53 ⟨rfl, rfl, trivial⟩, hC⟩

end Go.Proofs
