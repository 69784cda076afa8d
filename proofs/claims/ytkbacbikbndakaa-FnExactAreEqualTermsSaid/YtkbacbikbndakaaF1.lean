/- What functions of the program compute, as plain functions, and that a call gives just that. Conditions: those named in each theorem. -/
import Derived.Test.YtkbacbikbndakaaF0
set_option linter.unusedVariables false
namespace Go.Proofs
open Go.G Go.RowKit
set_option maxRecDepth 100000

def k_spec_l8Close (M : Nat → Prop) (w0 : World) (r : (List (List Int)) × Bool) (a : Act) (w : World) : Prop :=
  ∃ (σ : Nat → Value) (ra0 : Option Addr) (rn0 rc0 : Nat), a = fr 172 (ovl σ [(6, (.slice ra0 rn0 rc0)), (7, (.bool r.2))]) ∧ Chg [] w0 w ∧ (RT.rs (RT.rs (RT.int .i64))).val (Past M w0 w) w (.slice ra0 rn0 rc0) r.1 []
def s_spec_l8Close (a_ : Int × (List (Int × (List Int)))) (k : Int) (gens : List (List Int)) : Option ((List (List Int)) × Bool) :=
  (s_spec_l8Most (a_.1, a_.2)).bind fun r9 =>
  (forC (S := (List (List Int))) (R := (List (List Int)) × Bool) (fun k28 s26 =>
  (idx gens k28).bind fun x36 =>
  (s_spec_l1Own x36).bind fun r41 =>
  (app s26 ([r41])).bind fun y46 =>
  some (.nx y46)) 0 (gens.length : Int) ([])).bind fun o30 => after o30 (fun r_ => some r_) (fun s26 =>
  (forC (S := (List (List Int))) (R := (List (List Int)) × Bool) (fun k66 s64 =>
  (idx a_.2 k66).bind fun x74 =>
  (bif (x74.1 == 0) then (s_spec_l8Apply (a_.1, a_.2) k66 ([]) k).bind fun r81 =>
  (app s64 ([r81])).bind fun y86 =>
  some (.nx y86) else some (.nx s64))) 0 (a_.2.length : Int) s26).bind fun o68 => after o68 (fun r_ => some r_) (fun s64 =>
  (iter (S := (List (List Int)) × (List (List Int)) × Int) (R := (List (List Int)) × Bool) (fun s249 =>
  (bif (decide (s249.2.2 < (s64.length : Int))) then (idx s64 s249.2.2).bind fun x266 =>
  (s_spec_l8Find s249.1 x266).bind fun r271 =>
  (bif (!r271.2) then (idx s64 s249.2.2).bind fun x273 =>
  (s_spec_l8Put s249.1 x273).bind fun r278 =>
  (idx s64 s249.2.2).bind fun x280 =>
  (app s249.2.1 ([x280])).bind fun y287 =>
  some (.nx (r278, y287, w64 (s249.2.2 + 1))) else some (.nx (s249.1, s249.2.1, w64 (s249.2.2 + 1)))) else some (.br (s249.1, s249.2.1, s249.2.2)))) FU ([], [], 0)).bind fun o253 => after o253 (fun r_ => some r_) (fun s249 =>
  (iter (S := (List (List Int)) × (List (List Int)) × Int) (R := (List (List Int)) × Bool) (fun s2566 =>
  (bif ((decide (s2566.2.2 < (s2566.2.1.length : Int))) && (decide ((s2566.2.1.length : Int) ≤ r9))) then (forC (S := (List (List Int)) × (List (List Int))) (R := (List (List Int)) × Bool) (fun k3334 s3332 =>
  (idx a_.2 k3334).bind fun x3359 =>
  (idx a_.2 k3334).bind fun x3362 =>
  (mks x3359.1 (0 : Int)).bind fun y3366 =>
  (iter (S := (List (List Int)) × (List (List Int)) × (List Int) × Bool) (R := (List (List Int)) × Bool) (fun s3591 =>
  (bif (s3591.2.2.2 && (decide ((s3591.2.1.length : Int) ≤ r9))) then (s_spec_l1Has s3591.2.2.1 s2566.2.2).bind fun r3617 =>
  (bif r3617 then (s_spec_l8Choose__sh s3591.2.1 s3591.2.2.1).bind fun r3695 =>
  (s_spec_l8Apply (a_.1, a_.2) k3334 r3695 k).bind fun r3698 =>
  (s_spec_l8Find s3591.1 r3698).bind fun r3701 =>
  (bif (!r3701.2) then (s_spec_l8Put s3591.1 r3698).bind fun r3705 =>
  (app s3591.2.1 ([r3698])).bind fun y3710 =>
  some (r3705, y3710, s3591.2.2.1) else some (s3591.1, s3591.2.1, s3591.2.2.1)) else some (s3591.1, s3591.2.1, s3591.2.2.1)).bind fun s3674 =>
  (s_spec_l8Next s3674.2.2 (w64 (s2566.2.2 + 1))).bind fun r3714 =>
  some (.nx (s3674.1, s3674.2.1, r3714.1, r3714.2)) else some (.br (s3591.1, s3591.2.1, s3591.2.2.1, s3591.2.2.2)))) FU (s3332.1, s3332.2, y3366, (decide (0 < x3362.1)))).bind fun o3595 => after o3595 (fun r_ => some (.rt r_)) (fun s3591 =>
  some (.nx (s3591.1, s3591.2.1)))) 0 (a_.2.length : Int) (s2566.1, s2566.2.1)).bind fun o3336 => after o3336 (fun r_ => some (.rt r_)) (fun s3332 =>
  some (.nx (s3332.1, s3332.2, w64 (s2566.2.2 + 1)))) else some (.br (s2566.1, s2566.2.1, s2566.2.2)))) FU (s249.1, s249.2.1, 0)).bind fun o2570 => after o2570 (fun r_ => some r_) (fun s2566 =>
  some (s2566.1, (decide ((s2566.1.length : Int) ≤ r9)))))))
set_option maxHeartbeats 4000000 in
theorem c_spec_l8Close {M : Nat → Prop} {w : World} {pa0 : Option Addr} {pn0 pc0 : Nat} {pa1 : Option Addr} {pn1 pc1 : Nat} (a_ : Int × (List (Int × (List Int)))) (k : Int) (gens : List (List Int)) (h0 : (RT.rs (RT.pr (RT.int .i64) (RT.rs (RT.int .i64)))).val M w (.slice pa0 pn0 pc0) a_.2 ([])) (h1 : (RT.rs (RT.rs (RT.int .i64))).val M w (.slice pa1 pn1 pc1) gens ([])) (hM : ∀ g, w.heap.size ≤ g → M g) {r : (List (List Int)) × Bool} (hs : s_spec_l8Close a_ k gens = some r) :
    Gives Try.prog 37 [(.agg #[(.int .i64 a_.1), (.slice pa0 pn0 pc0)]), (.int .i64 k), (.slice pa1 pn1 pc1)] w (fun v w' => ∃ (ra0 : Option Addr) (rn0 rc0 : Nat), v = (.tuple #[(.slice ra0 rn0 rc0), (.bool r.2)]) ∧ Chg [] w w' ∧ (RT.rs (RT.rs (RT.int .i64))).val (Past M w w') w' (.slice ra0 rn0 rc0) r.1 []) := by
 refine calls_fr Try.func37 rfl Try.ntmps37 (Nat.le_of_ble_eq_true rfl) ?_
 have hO := Own.start (N := Nw w []) hM Nw.fut
 have hC := Chg.refl [] w
 unfold s_spec_l8Close at hs
 refine wp_mono (Q := KPost (k_spec_l8Close M w r)) ?_ (fun e a k5 h => ?_)
 rotate_left
 ·cases e
  case ret =>
   obtain ⟨σ, ra0, rn0, rc0, rfl, hrest⟩ := h
   exact ret2x Try.results37 (res_tmp rfl) (res_tmp rfl) ⟨ra0, rn0, rc0, rfl, hrest⟩
  all_goals exact (h : False).elim
 refine c_sr ?_
 obtain ⟨z4, a1, F0, z5, o6, a0⟩ := new_block w [(.int .i64 a_.1), (.slice pa0 pn0 pc0)] 35
 refine pl_val (w' := z4) (.pointer (some ⟨a1, 0, none⟩)) (y_box rfl (by rw [F0, z5]; kernel_rfl)) ?_
 have h0 := h0.ext o6
 have h1 := h1.ext o6
 have hC := hC.ext o6
 have hO := hO.new1 o6 z5 a0.lt
 refine pl_val (.slice none 0 0) (y_assign rfl) ?_
 refine pl_val (.bool false) (y_assign rfl) ?_
 refine c_nil ?_
 refine c_sr ?_
 obtain ⟨t1, a6, F1, z6, n4, z7⟩ := new_block z4 [] 43
 refine pl_val (w' := t1) (.slice (some ⟨a6, 0, none⟩) 0 0) (y_bslice rfl (by rw [F1, z6]; kernel_rfl)) ?_
 have h0 := h0.ext n4
 have h1 := h1.ext n4
 have a0 := a0.cn n4
 have hC := hC.ext n4
 have hO := hO.new1 n4 z6 z7.lt
 have a2 := os_of_box (r := (RT.os 3 (RT.int .i64))) (M := M) (css := []) (fps := []) (xs := ([] : List (List Int))) z7 trivial (Nat.zero_le _) (List.nodup_cons.2 ⟨(fun h => nomatch h), List.nodup_nil⟩)
 have a2 : (RT.os 43 (RT.os 3 (RT.int .i64))).val M t1 (.slice (some ⟨a6, 0, none⟩) 0 0) [] [a6] := a2
 obtain ⟨z8, a7, F2, z9, k6, A0⟩ := new_block t1 [] 43
 refine pl_val (w' := z8) (.slice (some ⟨a7, 0, none⟩) 0 0) (y_bslice rfl (by rw [F2, z9]; kernel_rfl)) ?_
 have h0 := h0.ext k6
 have h1 := h1.ext k6
 have a0 := a0.cn k6
 have a2 := a2.ext k6
 have hC := hC.ext k6
 have hO := hO.new1 k6 z9 A0.lt
 have a3 := os_of_box (r := (RT.os 3 (RT.int .i64))) (M := M) (css := []) (fps := []) (xs := ([] : List (List Int))) A0 trivial (Nat.zero_le _) (List.nodup_cons.2 ⟨(fun h => nomatch h), List.nodup_nil⟩)
 have a3 : (RT.os 43 (RT.os 3 (RT.int .i64))).val M z8 (.slice (some ⟨a7, 0, none⟩) 0 0) [] [a7] := a3
 refine pl_val (.agg #[(.int .i64 a_.1), (.slice pa0 pn0 pc0)]) (y_load rfl ((box_load Ag35 Sz35 a0 [] [(.int .i64 a_.1), (.slice pa0 pn0 pc0)] [] rfl rfl (fun h => nomatch h)) _ (Chg.refl _ _))) ?_
 obtain ⟨r9, F3, hs⟩ := bind_some hs
 refine pl_call Bd69 rfl (c_spec_l8Most (M := M) (a_.1, a_.2) h0 hO.fut F3) ?_
 rintro _ F4 ⟨rfl, h6⟩
 have h0 := h0.ext h6
 have h1 := h1.ext h6
 have a0 := a0.cn h6
 have a2 := a2.ext h6
 have a3 := a3.ext h6
 have hC := hC.ext h6
 have hO := hO.ext h6
 refine pl_val (.slice (some ⟨a6, 0, none⟩) 0 0) (y_assign rfl) ?_
 refine pl_val (.slice (some ⟨a7, 0, none⟩) 0 0) (y_assign rfl) ?_
 refine pl_val (.int .i64 r9) (y_assign rfl) ?_
 refine c_nil ?_
 refine c_sr ?_
 obtain ⟨A1, k7, F5, A2, h7, A3⟩ := new_block F4 [] 43
 refine pl_val (w' := A1) (.slice (some ⟨k7, 0, none⟩) 0 0) (y_bslice rfl (by rw [F5, A2]; kernel_rfl)) ?_
 have h0 := h0.ext h7
 have h1 := h1.ext h7
 have a0 := a0.cn h7
 have a2 := a2.ext h7
 have a3 := a3.ext h7
 have hC := hC.ext h7
 have hO := hO.new1 h7 A2 A3.lt
 have t2 := os_of_box (r := (RT.os 3 (RT.int .i64))) (M := M) (css := []) (fps := []) (xs := ([] : List (List Int))) A3 trivial (Nat.zero_le _) (List.nodup_cons.2 ⟨(fun h => nomatch h), List.nodup_nil⟩)
 have t2 : (RT.os 43 (RT.os 3 (RT.int .i64))).val M A1 (.slice (some ⟨k7, 0, none⟩) 0 0) [] [k7] := t2
 refine pl_val (.slice (some ⟨k7, 0, none⟩) 0 0) (y_assign rfl) ?_
 refine c_nil ?_
 refine c_seq ?_
 refine c_sr ?_
 refine pl_val (.int .i64 0) (y_assign rfl) ?_
 refine c_nil ?_
 obtain ⟨o30, F6, hs⟩ := bind_some hs
 refine wp_block ?_
 refine wp_forC (id := 0) (gens.length : Int) (I := fun k28 s26 a b0 => ∃ (σ : Nat → Value) (k8 : Option Addr) (k9 : Nat) (l0 : Nat) (h8 : List Nat), a = fr 172 (ovl σ [(1, (.int .i64 k)), (2, (.slice pa1 pn1 pc1)), (3, (.pointer (some ⟨a1, 0, none⟩))), (8, (.slice (some ⟨a6, 0, none⟩) 0 0)), (9, (.slice (some ⟨a7, 0, none⟩) 0 0)), (10, (.int .i64 r9)), (11, (.slice k8 k9 l0)), (12, (.int .i64 k28))]) ∧ Chg [] w b0 ∧ Own (Nw w []) M b0 (h8 ++ (([a7]) ++ (([a6]) ++ (([a1]) ++ [])))) ∧ (RT.rs (RT.pr (RT.int .i64) (RT.rs (RT.int .i64)))).val M b0 (.slice pa0 pn0 pc0) a_.2 ([]) ∧ (RT.rs (RT.rs (RT.int .i64))).val M b0 (.slice pa1 pn1 pc1) gens ([]) ∧ BoxV b0 a1 35 [(.int .i64 a_.1), (.slice pa0 pn0 pc0)] ∧ (RT.os 43 (RT.os 3 (RT.int .i64))).val M b0 (.slice (some ⟨a6, 0, none⟩) 0 0) ([]) ([a6]) ∧ (RT.os 43 (RT.os 3 (RT.int .i64))).val M b0 (.slice (some ⟨a7, 0, none⟩) 0 0) ([]) ([a7]) ∧ (RT.os 43 (RT.os 3 (RT.int .i64))).val M b0 (.slice k8 k9 l0) s26 h8) (J := fun s26 a b0 => ∃ (σ : Nat → Value) (o7 : Option Addr) (o8 : Nat) (o9 : Nat) (p0 : List Nat), a = fr 172 (ovl σ [(1, (.int .i64 k)), (3, (.pointer (some ⟨a1, 0, none⟩))), (8, (.slice (some ⟨a6, 0, none⟩) 0 0)), (9, (.slice (some ⟨a7, 0, none⟩) 0 0)), (10, (.int .i64 r9)), (11, (.slice o7 o8 o9))]) ∧ Chg [] w b0 ∧ Own (Nw w []) M b0 (p0 ++ (([a7]) ++ (([a6]) ++ (([a1]) ++ [])))) ∧ (RT.rs (RT.pr (RT.int .i64) (RT.rs (RT.int .i64)))).val M b0 (.slice pa0 pn0 pc0) a_.2 ([]) ∧ (RT.rs (RT.rs (RT.int .i64))).val M b0 (.slice pa1 pn1 pc1) gens ([]) ∧ BoxV b0 a1 35 [(.int .i64 a_.1), (.slice pa0 pn0 pc0)] ∧ (RT.os 43 (RT.os 3 (RT.int .i64))).val M b0 (.slice (some ⟨a6, 0, none⟩) 0 0) ([]) ([a6]) ∧ (RT.os 43 (RT.os 3 (RT.int .i64))).val M b0 (.slice (some ⟨a7, 0, none⟩) 0 0) ([]) ([a7]) ∧ (RT.os 43 (RT.os 3 (RT.int .i64))).val M b0 (.slice o7 o8 o9) s26 p0) (K := (k_spec_l8Close M w)) ?_ ?_ 0 ([]) o30 _ _ ?_ F6 ?_
 ·rintro k28 s26 a b0 ⟨σ, k8, k9, l0, h8, rfl, hC, hO, h0, h1, a0, a2, a3, f8⟩ hlt
  refine c_seq ?_
  refine c_sr ?_
  refine pl_val (.int .i64 k28) (y_move rfl) ?_
  refine pl_val (.slice pa1 pn1 pc1) (y_move rfl) ?_
  refine pl_val (.int .i64 (gens.length : Int)) (y_len' Sl25 (rs_len h1) rfl) ?_
  refine pl_val (.bool (decide (k28 < (gens.length : Int)))) (y_lss rfl rfl) ?_
  refine c_nil ?_
  refine c_condF (congrArg Value.bool (decide_eq_false hlt)) ?_
  refine wp_exit ?_
  have hO := hO.fr3
  have hO := hO.fr3
  have hO := hO.fr3
  have hO := hO.fr3
  exact ⟨rfl, _, k8, k9, l0, h8, fr_ovl 172 ⟨rfl, rfl, rfl, rfl, rfl, rfl, trivial⟩, hC, hO, h0, h1, a0, a2, a3, f8⟩
 ·rintro k28 s26 o30 a b0 ⟨σ, k8, k9, l0, h8, rfl, hC, hO, h0, h1, a0, a2, a3, f8⟩ hlt hw hs
  refine c_seq ?_
  refine c_sr ?_
  refine pl_val (.int .i64 k28) (y_move rfl) ?_
  refine pl_val (.slice pa1 pn1 pc1) (y_move rfl) ?_
  refine pl_val (.int .i64 (gens.length : Int)) (y_len' Sl25 (rs_len h1) rfl) ?_
  refine pl_val (.bool (decide (k28 < (gens.length : Int)))) (y_lss rfl rfl) ?_
  refine c_nil ?_
  refine c_condT (congrArg Value.bool (decide_eq_true hlt)) ?_
  refine wp_skip ?_
  refine c_seq ?_
  refine wp_block ?_
  refine c_region ?_
  refine pl_val (.slice k8 k9 l0) (y_move rfl) ?_
  refine pl_val (.slice pa1 pn1 pc1) (y_move rfl) ?_
  refine pl_val (.int .i64 k28) (y_move rfl) ?_
  obtain ⟨x36, F7, hs⟩ := bind_some hs
  obtain ⟨F8, F9, G0, n5⟩ := rs_idx Sl25 Sz43 h1 F7
  refine pl_val (.pointer (some ⟨F8, F9, none⟩)) (G0 _ _ _ _ _ _ _ _ _ rfl rfl) ?_
  obtain ⟨Q6, G1, f9⟩ := at_load Ag43 Sz43 (fun _ => rfl) n5
  obtain ⟨G2, G3, G4, rfl⟩ := rs_sl f9
  refine pl_val (.slice G2 G3 G4) (y_load rfl (G1 _ (Chg.refl _ _))) ?_
  obtain ⟨r41, G5, hs⟩ := bind_some hs
  refine pl_call Bd54 rfl (c_spec_l1Own (M := M) x36 f9 hO.fut G5) ?_
  rintro _ G6 ⟨A4, A5, A6, p1, rfl, c7, t3, G7⟩
  have h0 := h0.ext c7
  have h1 := h1.ext c7
  have a0 := a0.cn c7
  have a2 := a2.ext c7
  have a3 := a3.ext c7
  have f8 := f8.ext c7
  have f9 := f9.ext c7
  have n5 := at_ext n5 c7
  have hC := hC.ext c7
  have hO := Own.join0 hO c7 G7
  have hO := hO.perm (R := p1 ++ (h8 ++ (([a7]) ++ (([a6]) ++ (([a1]) ++ ([])))))) (by simp)
  obtain ⟨A7, p2, G8, A8, c4, A9⟩ := new_block G6 [(.slice A4 A5 A6)] 43
  refine pl_val (w' := A7) (.slice (some ⟨p2, 0, none⟩) 1 1) (y_bslice rfl (by rw [G8, A8]; kernel_rfl)) ?_
  have h0 := h0.ext c4
  have h1 := h1.ext c4
  have a0 := a0.cn c4
  have a2 := a2.ext c4
  have a3 := a3.ext c4
  have f8 := f8.ext c4
  have f9 := f9.ext c4
  have t3 := t3.ext c4
  have n5 := at_ext n5 c4
  have hC := hC.ext c4
  have hO := hO.new1 c4 A8 A9.lt
  have hO := hO.perm (R := (p2 :: ((p1) ++ ([]))) ++ (h8 ++ (([a7]) ++ (([a6]) ++ (([a1]) ++ ([])))))) (by simp)
  have G9 := hO.nd
  have t4 := os_of_box (r := (RT.os 3 (RT.int .i64))) (M := M) (css := [[(.slice A4 A5 A6)]]) (fps := [(p1 : List Nat)]) (xs := ([r41] : List (List Int))) A9 ⟨(os_unval t3), trivial⟩ (Nat.le_of_ble_eq_true rfl) G9
  have t4 : (RT.os 43 (RT.os 3 (RT.int .i64))).val M A7 (.slice (some ⟨p2, 0, none⟩) 1 1) [r41] (p2 :: ((p1) ++ ([]))) := t4
  obtain ⟨y46, H0, hs⟩ := bind_some hs
  have hO := hO.fr1
  obtain ⟨t5, t6, t7, H1, H2, H3, g0, H4, t8⟩ := app_os Rw25 H0 f8 t4 hO.inM (fun g hg hq => hO.apart g hq (mem_l hg))
  have h9 := os_block f8
  refine pl_val (w' := H1) (.slice t5 t6 t7) (y_append rfl rfl (H3 _)) ?_
  have hO := hO.fr1
  have hO := hO.fr1
  have h0 := h0.mt g0 hO h9
  have h1 := h1.mt g0 hO h9
  have a0 := a0.ap g0 hO h9 (mem_r (mem_r (mem_r (mem_l (List.mem_singleton.2 rfl)))))
  have a2 := a2.ma g0 hO h9 (fun _ e => (mem_r (mem_r (mem_l (e)))))
  have a3 := a3.ma g0 hO h9 (fun _ e => (mem_r (mem_l (e))))
  have f9 := f9.mt g0 hO h9
  have hC := hC.st g0 hO h9
  have hO := hO.eat g0 H4 (os_nodup t8) t8.fpl
  refine pl_val (.slice t5 t6 t7) (y_assign rfl) ?_
  refine c_nil ?_
  refine c_region ?_
  refine pl_val (.int .i64 k28) (y_move rfl) ?_
  refine pl_val (.int .i64 (w64 (k28 + 1))) (y_add rfl rfl) ?_
  refine pl_val (.int .i64 (w64 (k28 + 1))) (y_assign rfl) ?_
  refine c_nil ?_
  cases hs
  have hO := hO.fr3
  have hO := hO.fr3
  have hO := hO.fr3
  have hO := hO.fr3
  exact ⟨_, t5, t6, t7, H2, fr_ovl 172 ⟨rfl, rfl, rfl, rfl, rfl, rfl, rfl, congrArg (Value.int .i64) hw, trivial⟩, hC, hO, h0, h1, a0, a2, a3, t8⟩
 ·skip
  have hO := hO.fr3
  have hO := hO.fr3
  have hO := hO.fr3
  have hO := hO.fr3
  exact ⟨_, (some ⟨k7, 0, none⟩), 0, 0, ([k7]), fr_ovl 172 ⟨rfl, rfl, rfl, rfl, rfl, rfl, rfl, rfl, trivial⟩, hC, hO, h0, h1, a0, a2, a3, t2⟩
 cases o30 with
 | nx _ => exact True.intro
 | rt r_ =>
  have hs := after_rt hs
  intro b8 k5 hK
  cases hs
  exact hK
 | br s26 =>
  have hs := after_br hs
  rintro b8 b0 ⟨σ, o7, o8, o9, p0, rfl, hC, hO, h0, h1, a0, a2, a3, H5⟩
  refine c_seq ?_
  refine c_sr ?_
  refine pl_val (.int .i64 0) (y_assign rfl) ?_
  refine c_nil ?_
  obtain ⟨o68, H6, hs⟩ := bind_some hs
  refine wp_block ?_
  refine wp_forC (id := 2) (a_.2.length : Int) (I := fun k66 s64 a b2 => ∃ (σ : Nat → Value) (i0 : Option Addr) (i1 : Nat) (i2 : Nat) (g1 : List Nat), a = fr 172 (ovl σ [(1, (.int .i64 k)), (3, (.pointer (some ⟨a1, 0, none⟩))), (8, (.slice (some ⟨a6, 0, none⟩) 0 0)), (9, (.slice (some ⟨a7, 0, none⟩) 0 0)), (10, (.int .i64 r9)), (11, (.slice i0 i1 i2)), (13, (.int .i64 k66))]) ∧ Chg [] w b2 ∧ Own (Nw w []) M b2 (g1 ++ (([a7]) ++ (([a6]) ++ (([a1]) ++ [])))) ∧ (RT.rs (RT.pr (RT.int .i64) (RT.rs (RT.int .i64)))).val M b2 (.slice pa0 pn0 pc0) a_.2 ([]) ∧ BoxV b2 a1 35 [(.int .i64 a_.1), (.slice pa0 pn0 pc0)] ∧ (RT.os 43 (RT.os 3 (RT.int .i64))).val M b2 (.slice (some ⟨a6, 0, none⟩) 0 0) ([]) ([a6]) ∧ (RT.os 43 (RT.os 3 (RT.int .i64))).val M b2 (.slice (some ⟨a7, 0, none⟩) 0 0) ([]) ([a7]) ∧ (RT.os 43 (RT.os 3 (RT.int .i64))).val M b2 (.slice i0 i1 i2) s64 g1) (J := fun s64 a b2 => ∃ (σ : Nat → Value) (c8 : Option Addr) (c9 : Nat) (d0 : Nat) (t9 : List Nat), a = fr 172 (ovl σ [(1, (.int .i64 k)), (3, (.pointer (some ⟨a1, 0, none⟩))), (8, (.slice (some ⟨a6, 0, none⟩) 0 0)), (9, (.slice (some ⟨a7, 0, none⟩) 0 0)), (10, (.int .i64 r9)), (11, (.slice c8 c9 d0))]) ∧ Chg [] w b2 ∧ Own (Nw w []) M b2 (t9 ++ (([a7]) ++ (([a6]) ++ (([a1]) ++ [])))) ∧ (RT.rs (RT.pr (RT.int .i64) (RT.rs (RT.int .i64)))).val M b2 (.slice pa0 pn0 pc0) a_.2 ([]) ∧ BoxV b2 a1 35 [(.int .i64 a_.1), (.slice pa0 pn0 pc0)] ∧ (RT.os 43 (RT.os 3 (RT.int .i64))).val M b2 (.slice (some ⟨a6, 0, none⟩) 0 0) ([]) ([a6]) ∧ (RT.os 43 (RT.os 3 (RT.int .i64))).val M b2 (.slice (some ⟨a7, 0, none⟩) 0 0) ([]) ([a7]) ∧ (RT.os 43 (RT.os 3 (RT.int .i64))).val M b2 (.slice c8 c9 d0) s64 t9) (K := (k_spec_l8Close M w)) ?_ ?_ 0 s26 o68 _ _ ?_ H6 ?_
  ·rintro k66 s64 a b2 ⟨σ, i0, i1, i2, g1, rfl, hC, hO, h0, a0, a2, a3, c5⟩ hlt
   refine c_seq ?_
   refine c_sr ?_
   refine pl_val (.int .i64 k66) (y_move rfl) ?_
   refine pl_val (.pointer (some ⟨a1, 1, none⟩)) (y_faddr rfl Fa35x1) ?_
   refine pl_val (.slice pa0 pn0 pc0) (y_load rfl ((box_load Ag33 Sz33 a0 [(.int .i64 a_.1)] [(.slice pa0 pn0 pc0)] [] rfl rfl (fun _ => rfl)) _ (Chg.refl _ _))) ?_
   refine pl_val (.int .i64 (a_.2.length : Int)) (y_len' Sl33 (rs_len h0) rfl) ?_
   refine pl_val (.bool (decide (k66 < (a_.2.length : Int)))) (y_lss rfl rfl) ?_
   refine c_nil ?_
   refine c_condF (congrArg Value.bool (decide_eq_false hlt)) ?_
   refine wp_exit ?_
   have hO := hO.fr3
   have hO := hO.fr3
   have hO := hO.fr3
   have hO := hO.fr3
   exact ⟨rfl, _, i0, i1, i2, g1, fr_ovl 172 ⟨rfl, rfl, rfl, rfl, rfl, rfl, trivial⟩, hC, hO, h0, a0, a2, a3, c5⟩
  ·rintro k66 s64 o68 a b2 ⟨σ, i0, i1, i2, g1, rfl, hC, hO, h0, a0, a2, a3, c5⟩ hlt hw hs
   refine c_seq ?_
   refine c_sr ?_
   refine pl_val (.int .i64 k66) (y_move rfl) ?_
   refine pl_val (.pointer (some ⟨a1, 1, none⟩)) (y_faddr rfl Fa35x1) ?_
   refine pl_val (.slice pa0 pn0 pc0) (y_load rfl ((box_load Ag33 Sz33 a0 [(.int .i64 a_.1)] [(.slice pa0 pn0 pc0)] [] rfl rfl (fun _ => rfl)) _ (Chg.refl _ _))) ?_
   refine pl_val (.int .i64 (a_.2.length : Int)) (y_len' Sl33 (rs_len h0) rfl) ?_
   refine pl_val (.bool (decide (k66 < (a_.2.length : Int)))) (y_lss rfl rfl) ?_
   refine c_nil ?_
   refine c_condT (congrArg Value.bool (decide_eq_true hlt)) ?_
   refine wp_skip ?_
   refine c_seq ?_
   refine wp_block ?_
   refine c_sr ?_
   refine pl_val (.pointer (some ⟨a1, 1, none⟩)) (y_faddr rfl Fa35x1) ?_
   refine pl_val (.slice pa0 pn0 pc0) (y_load rfl ((box_load Ag33 Sz33 a0 [(.int .i64 a_.1)] [(.slice pa0 pn0 pc0)] [] rfl rfl (fun _ => rfl)) _ (Chg.refl _ _))) ?_
   refine pl_val (.int .i64 k66) (y_move rfl) ?_
   obtain ⟨x74, H7, hs⟩ := bind_some hs
   obtain ⟨B0, B1, H8, H9⟩ := rs_idx Sl33 Sz89 h0 H7
   refine pl_val (.pointer (some ⟨B0, B1, none⟩)) (H8 _ _ _ _ _ _ _ _ _ rfl rfl) ?_
   obtain ⟨I0, _⟩ := pr_at H9
   refine pl_val (.pointer (some ⟨B0, B1 + 0, none⟩)) (y_faddr rfl Fa89x0) ?_
   refine pl_val (.int .i64 x74.1) (y_load rfl ((at_load_int Ag3 Sz3 I0) _ (Chg.refl _ _))) ?_
   refine pl_val (.bool (x74.1 == 0)) (y_eql rfl rfl) ?_
   refine c_nil ?_
   rcases bif_some hs with ⟨u0, hs⟩ | ⟨u0, hs⟩
   ·refine c_condT (congrArg Value.bool u0) ?_
    refine c_region ?_
    refine pl_val (.slice i0 i1 i2) (y_move rfl) ?_
    refine pl_val (.agg #[(.int .i64 a_.1), (.slice pa0 pn0 pc0)]) (y_load rfl ((box_load Ag35 Sz35 a0 [] [(.int .i64 a_.1), (.slice pa0 pn0 pc0)] [] rfl rfl (fun h => nomatch h)) _ (Chg.refl _ _))) ?_
    refine pl_val (.int .i64 k66) (y_move rfl) ?_
    obtain ⟨B2, l1, I1, B3, i3, B4⟩ := new_block b2 [] 43
    refine pl_val (w' := B2) (.slice (some ⟨l1, 0, none⟩) 0 0) (y_bslice rfl (by rw [I1, B3]; kernel_rfl)) ?_
    have h0 := h0.ext i3
    have a0 := a0.cn i3
    have a2 := a2.ext i3
    have a3 := a3.ext i3
    have c5 := c5.ext i3
    have hC := hC.ext i3
    have hO := hO.new1 i3 B3 B4.lt
    have e4 := os_of_box (r := (RT.os 3 (RT.int .i64))) (M := M) (css := []) (fps := []) (xs := ([] : List (List Int))) B4 trivial (Nat.zero_le _) (List.nodup_cons.2 ⟨(fun h => nomatch h), List.nodup_nil⟩)
    have e4 : (RT.os 43 (RT.os 3 (RT.int .i64))).val M B2 (.slice (some ⟨l1, 0, none⟩) 0 0) [] [l1] := e4
    refine pl_val (.int .i64 k) (y_move rfl) ?_
    obtain ⟨r81, I2, hs⟩ := bind_some hs
    refine pl_call Bd70 rfl (c_spec_l8Apply (M := (Less M ([l1]))) (a_.1, a_.2) k66 ([]) k (h0.sub Less.sub) (((Frz.os (Frz.os Frz.int))).val e4 Less.sub Less.not) hO.less.fut I2) ?_
    rintro _ I3 ⟨B5, B6, B7, p3, rfl, g2, n6, I4⟩
    have h0 := h0.ext g2
    have a0 := a0.cn g2
    have a2 := a2.ext g2
    have a3 := a3.ext g2
    have c5 := c5.ext g2
    have e4 := e4.ext g2
    have hC := hC.ext g2
    have hO := Own.join0 hO g2 I4
    have hO := hO.perm (R := p3 ++ (([l1]) ++ (g1 ++ (([a7]) ++ (([a6]) ++ (([a1]) ++ ([]))))))) (by simp)
    have n6 := n6.free (M' := M) (Free.os Free.int)
    obtain ⟨B8, p4, I5, B9, e5, C0⟩ := new_block I3 [(.slice B5 B6 B7)] 43
    refine pl_val (w' := B8) (.slice (some ⟨p4, 0, none⟩) 1 1) (y_bslice rfl (by rw [I5, B9]; kernel_rfl)) ?_
    have h0 := h0.ext e5
    have a0 := a0.cn e5
    have a2 := a2.ext e5
    have a3 := a3.ext e5
    have c5 := c5.ext e5
    have e4 := e4.ext e5
    have n6 := n6.ext e5
    have hC := hC.ext e5
    have hO := hO.new1 e5 B9 C0.lt
    have hO := hO.perm (R := (p4 :: ((p3) ++ ([]))) ++ (([l1]) ++ (g1 ++ (([a7]) ++ (([a6]) ++ (([a1]) ++ ([]))))))) (by simp)
    have I6 := hO.nd
    have u1 := os_of_box (r := (RT.os 3 (RT.int .i64))) (M := M) (css := [[(.slice B5 B6 B7)]]) (fps := [(p3 : List Nat)]) (xs := ([r81] : List (List Int))) C0 ⟨(os_unval n6), trivial⟩ (Nat.le_of_ble_eq_true rfl) I6
    have u1 : (RT.os 43 (RT.os 3 (RT.int .i64))).val M B8 (.slice (some ⟨p4, 0, none⟩) 1 1) [r81] (p4 :: ((p3) ++ ([]))) := u1
    obtain ⟨y86, I7, hs⟩ := bind_some hs
    have hO := hO.fr2
    obtain ⟨u2, u3, u4, I8, I9, J0, i4, J1, u5⟩ := app_os Rw25 I7 c5 u1 hO.inM (fun g hg hq => hO.apart g hq (mem_l hg))
    have l2 := os_block c5
    refine pl_val (w' := I8) (.slice u2 u3 u4) (y_append rfl rfl (J0 _)) ?_
    have hO := hO.fr1
    have hO := hO.fr1
    have h0 := h0.mt i4 hO l2
    have a0 := a0.ap i4 hO l2 (mem_r (mem_r (mem_r (mem_r (mem_l (List.mem_singleton.2 rfl))))))
    have a2 := a2.ma i4 hO l2 (fun _ e => (mem_r (mem_r (mem_r (mem_l (e))))))
    have a3 := a3.ma i4 hO l2 (fun _ e => (mem_r (mem_r (mem_l (e)))))
    have e4 := e4.ma i4 hO l2 (fun _ e => (mem_r (mem_l (e))))
    have hC := hC.st i4 hO l2
    have hO := hO.eat i4 J1 (os_nodup u5) u5.fpl
    refine pl_val (.slice u2 u3 u4) (y_assign rfl) ?_
    refine c_nil ?_
    refine c_region ?_
    refine pl_val (.int .i64 k66) (y_move rfl) ?_
    refine pl_val (.int .i64 (w64 (k66 + 1))) (y_add rfl rfl) ?_
    refine pl_val (.int .i64 (w64 (k66 + 1))) (y_assign rfl) ?_
    refine c_nil ?_
    cases hs
    have hO := hO.fr1
    have hO := hO.drop
    have hO := hO.fr3
    have hO := hO.fr3
    have hO := hO.fr3
    have hO := hO.fr3
    exact ⟨_, u2, u3, u4, I9, fr_ovl 172 ⟨rfl, rfl, rfl, rfl, rfl, rfl, congrArg (Value.int .i64) hw, trivial⟩, hC, hO, h0, a0, a2, a3, u5⟩
   refine c_condF (congrArg Value.bool u0) ?_
   refine wp_skip ?_
   refine c_region ?_
   refine pl_val (.int .i64 k66) (y_move rfl) ?_
   refine pl_val (.int .i64 (w64 (k66 + 1))) (y_add rfl rfl) ?_
   refine pl_val (.int .i64 (w64 (k66 + 1))) (y_assign rfl) ?_
   refine c_nil ?_
   cases hs
   have hO := hO.fr3
   have hO := hO.fr3
   have hO := hO.fr3
   have hO := hO.fr3
   exact ⟨_, i0, i1, i2, g1, fr_ovl 172 ⟨rfl, rfl, rfl, rfl, rfl, rfl, congrArg (Value.int .i64) hw, trivial⟩, hC, hO, h0, a0, a2, a3, c5⟩
  ·skip
   have hO := hO.fr3
   have hO := hO.fr3
   have hO := hO.fr3
   have hO := hO.fr3
   exact ⟨_, o7, o8, o9, p0, fr_ovl 172 ⟨rfl, rfl, rfl, rfl, rfl, rfl, rfl, trivial⟩, hC, hO, h0, a0, a2, a3, H5⟩
  cases o68 with
  | nx _ => exact True.intro
  | rt r_ =>
   have hs := after_rt hs
   intro b8 k5 hK
   cases hs
   exact hK
  | br s64 =>
   have hs := after_br hs
   rintro b8 b2 ⟨σ, c8, c9, d0, t9, rfl, hC, hO, h0, a0, a2, a3, n7⟩
   refine c_seq ?_
   refine c_sr ?_
   refine pl_val (.int .i64 0) (y_assign rfl) ?_
   refine c_nil ?_
   have hO := hO.fr2
   obtain ⟨u6, Q7, u7, J2, hO, n8⟩ := frz_own (Frz.os (Frz.os Frz.int)) a2 hO
   have h0 := h0.sub (M' := u6) u7
   have a3 := a3.sub (M' := u6) u7
   have n7 := n7.sub (M' := u6) u7
   have hK := J2
   have hO := hO.fr1
   obtain ⟨u9, J3, v0, J4, hO, v1⟩ := os_inner (Frz.os Frz.int) a3 hO
   have h0 := h0.sub (M' := u9) v0
   have n8 := n8.sub (M' := u9) v0
   have n7 := n7.sub (M' := u9) v0
   have hK := hK.trans J4
   have hO := hO.fr1
   obtain ⟨p5, Q8, v2, J5, hO, b1⟩ := frz_own (Frz.os (Frz.os Frz.int)) n7 hO
   have h0 := h0.sub (M' := p5) v2
   have n8 := n8.sub (M' := p5) v2
   have v1 := v1.sub (M' := p5) v2
   have hK := hK.trans J5
   obtain ⟨o253, J6, hs⟩ := bind_some hs
   refine wp_block ?_
   refine wp_iter (id := 4) (I := fun s249 a b5 => ∃ (σ : Nat → Value) (a8 : Nat → Prop) (i5 : Option Addr) (i6 : Nat) (i7 : Nat) (l3 : Option Addr) (l4 : Nat) (l5 : Nat) (n9 : List Nat), a = fr 172 (ovl σ [(1, (.int .i64 k)), (3, (.pointer (some ⟨a1, 0, none⟩))), (8, (.slice i5 i6 i7)), (9, (.slice l3 l4 l5)), (10, (.int .i64 r9)), (11, (.slice c8 c9 d0)), (14, (.int .i64 s249.2.2))]) ∧ Chg [] w b5 ∧ Own (Nw w []) a8 b5 (n9 ++ (([a1]) ++ [])) ∧ Keeps w M a8 ∧ (RT.rs (RT.pr (RT.int .i64) (RT.rs (RT.int .i64)))).val a8 b5 (.slice pa0 pn0 pc0) a_.2 ([]) ∧ BoxV b5 a1 35 [(.int .i64 a_.1), (.slice pa0 pn0 pc0)] ∧ (RT.rs (RT.rs (RT.int .i64))).val a8 b5 (.slice c8 c9 d0) s64 ([]) ∧ (RT.rs (RT.rs (RT.int .i64))).val a8 b5 (.slice i5 i6 i7) s249.1 ([]) ∧ (RT.os 43 (RT.rs (RT.int .i64))).val a8 b5 (.slice l3 l4 l5) s249.2.1 n9) (J := fun s249 a b5 => ∃ (σ : Nat → Value) (g3 : Nat → Prop) (p6 : Option Addr) (p7 : Nat) (p8 : Nat) (p9 : Option Addr) (q0 : Nat) (q1 : Nat) (q2 : List Nat), a = fr 172 (ovl σ [(1, (.int .i64 k)), (3, (.pointer (some ⟨a1, 0, none⟩))), (8, (.slice p6 p7 p8)), (9, (.slice p9 q0 q1)), (10, (.int .i64 r9))]) ∧ Chg [] w b5 ∧ Own (Nw w []) g3 b5 (q2 ++ (([a1]) ++ [])) ∧ Keeps w M g3 ∧ (RT.rs (RT.pr (RT.int .i64) (RT.rs (RT.int .i64)))).val g3 b5 (.slice pa0 pn0 pc0) a_.2 ([]) ∧ BoxV b5 a1 35 [(.int .i64 a_.1), (.slice pa0 pn0 pc0)] ∧ (RT.rs (RT.rs (RT.int .i64))).val g3 b5 (.slice c8 c9 d0) s64 ([]) ∧ (RT.rs (RT.rs (RT.int .i64))).val g3 b5 (.slice p6 p7 p8) s249.1 ([]) ∧ (RT.os 43 (RT.rs (RT.int .i64))).val g3 b5 (.slice p9 q0 q1) s249.2.1 q2) (K := (k_spec_l8Close M w)) ?_ FU ([], [], 0) o253 _ _ ?_ J6 ?_
   ·rintro s249 o253 a b5 ⟨σ, a8, i5, i6, i7, l3, l4, l5, n9, rfl, hC, hO, hK, h0, a0, b1, d1, c2⟩ hs
    refine c_seq ?_
    refine c_sr ?_
    refine pl_val (.int .i64 s249.2.2) (y_move rfl) ?_
    refine pl_val (.slice c8 c9 d0) (y_move rfl) ?_
    refine pl_val (.int .i64 (s64.length : Int)) (y_len' Sl25 (rs_len b1) rfl) ?_
    refine pl_val (.bool (decide (s249.2.2 < (s64.length : Int)))) (y_lss rfl rfl) ?_
    refine c_nil ?_
    rcases bif_some hs with ⟨v3, hs⟩ | ⟨v3, hs⟩
    ·refine c_condT (congrArg Value.bool v3) ?_
     refine wp_skip ?_
     refine c_seq ?_
     refine wp_block ?_
     refine c_sr ?_
     refine pl_val (.slice i5 i6 i7) (y_move rfl) ?_
     refine pl_val (.slice c8 c9 d0) (y_move rfl) ?_
     refine pl_val (.int .i64 s249.2.2) (y_move rfl) ?_
     obtain ⟨x266, J7, hs⟩ := bind_some hs
     obtain ⟨J8, J9, K0, v4⟩ := rs_idx Sl25 Sz43 b1 J7
     refine pl_val (.pointer (some ⟨J8, J9, none⟩)) (K0 _ _ _ _ _ _ _ _ _ rfl rfl) ?_
     obtain ⟨Q9, K1, q3⟩ := at_load Ag43 Sz43 (fun _ => rfl) v4
     obtain ⟨K2, K3, K4, rfl⟩ := rs_sl q3
     refine pl_val (.slice K2 K3 K4) (y_load rfl (K1 _ (Chg.refl _ _))) ?_
     obtain ⟨r271, K5, hs⟩ := bind_some hs
     refine pl_call Bd46 rfl (c_spec_l8Find (M := a8) s249.1 x266 d1 q3 hO.fut K5) ?_
     rintro _ e6 ⟨rfl, e7⟩
     have h0 := h0.ext e7
     have a0 := a0.cn e7
     have b1 := b1.ext e7
     have d1 := d1.ext e7
     have c2 := c2.ext e7
     have q3 := q3.ext e7
     have v4 := at_ext v4 e7
     have hC := hC.ext e7
     have hO := hO.ext e7
     refine pl_val (.tuple #[(.int .i64 r271.1), (.bool r271.2)]) (y_move rfl) ?_
     refine pl_val (.int .i64 r271.1) (y_extract rfl (by kernel_rfl)) ?_
     refine pl_val (.bool r271.2) (y_extract rfl (by kernel_rfl)) ?_
     refine pl_val (.int .i64 r271.1) (y_assign rfl) ?_
     refine pl_val (.bool r271.2) (y_assign rfl) ?_
     refine c_nil ?_
     refine c_sr ?_
     refine pl_val (.bool r271.2) (y_move rfl) ?_
     refine pl_val (.bool (!r271.2)) (y_not rfl) ?_
     refine c_nil ?_
     rcases bif_some hs with ⟨v5, hs⟩ | ⟨v5, hs⟩
     ·refine c_condT (congrArg Value.bool v5) ?_
      refine c_sr ?_
      refine pl_val (.slice i5 i6 i7) (y_move rfl) ?_
      refine pl_val (.slice c8 c9 d0) (y_move rfl) ?_
      refine pl_val (.int .i64 s249.2.2) (y_move rfl) ?_
      obtain ⟨x273, K6, hs⟩ := bind_some hs
      obtain ⟨K7, K8, K9, v6⟩ := rs_idx Sl25 Sz43 b1 K6
      refine pl_val (.pointer (some ⟨K7, K8, none⟩)) (K9 _ _ _ _ _ _ _ _ _ rfl rfl) ?_
      obtain ⟨R0, L0, l6⟩ := at_load Ag43 Sz43 (fun _ => rfl) v6
      obtain ⟨L1, L2, L3, rfl⟩ := rs_sl l6
      refine pl_val (.slice L1 L2 L3) (y_load rfl (L0 _ (Chg.refl _ _))) ?_
      obtain ⟨r278, L4, hs⟩ := bind_some hs
      refine pl_call Bd71 rfl (c_spec_l8Put (M := a8) s249.1 x273 d1 l6 hO.fut L4) ?_
      rintro _ d2 ⟨C1, C2, C3, rfl, e8, o0⟩
      have hK := hK.trans (show Keeps w a8 (Past a8 e6 d2) from Keeps.past hC.size)
      have h0 := h0.ext e8
      have a0 := a0.cn e8
      have b1 := b1.ext e8
      have d1 := d1.ext e8
      have c2 := c2.ext e8
      have l6 := l6.ext e8
      have v6 := at_ext v6 e8
      have hC := hC.ext e8
      have hO := hO.past e8
      have h0 := h0.sub (M' := (Past a8 e6 d2)) (fun g hg => .inl hg.1)
      have b1 := b1.sub (M' := (Past a8 e6 d2)) (fun g hg => .inl hg.1)
      have d1 := d1.sub (M' := (Past a8 e6 d2)) (fun g hg => .inl hg.1)
      have c2 := c2.sub (M' := (Past a8 e6 d2)) (fun g hg => .inl hg.1)
      have l6 := l6.sub (M' := (Past a8 e6 d2)) (fun g hg => .inl hg.1)
      refine pl_val (.slice C1 C2 C3) (y_assign rfl) ?_
      refine c_nil ?_
      refine c_region ?_
      refine pl_val (.slice l3 l4 l5) (y_move rfl) ?_
      refine pl_val (.slice c8 c9 d0) (y_move rfl) ?_
      refine pl_val (.int .i64 s249.2.2) (y_move rfl) ?_
      obtain ⟨x280, L5, hs⟩ := bind_some hs
      obtain ⟨L6, L7, L8, v7⟩ := rs_idx Sl25 Sz43 b1 L5
      refine pl_val (.pointer (some ⟨L6, L7, none⟩)) (L8 _ _ _ _ _ _ _ _ _ rfl rfl) ?_
      obtain ⟨R1, L9, l7⟩ := at_load Ag43 Sz43 (fun _ => rfl) v7
      obtain ⟨v8, v9, w1, rfl⟩ := rs_sl l7
      refine pl_val (.slice v8 v9 w1) (y_load rfl (L9 _ (Chg.refl _ _))) ?_
      obtain ⟨C4, w2, M0, C5, e9, C6⟩ := new_block d2 [(.slice v8 v9 w1)] 43
      refine pl_val (w' := C4) (.slice (some ⟨w2, 0, none⟩) 1 1) (y_bslice rfl (by rw [M0, C5]; kernel_rfl)) ?_
      have h0 := h0.ext e9
      have a0 := a0.cn e9
      have b1 := b1.ext e9
      have c2 := c2.ext e9
      have o0 := o0.ext e9
      have l7 := l7.ext e9
      have v7 := at_ext v7 e9
      have hC := hC.ext e9
      have hO := hO.new1 e9 C5 C6.lt
      have w3 := os_of_box (r := (RT.rs (RT.int .i64))) (M := (Past a8 e6 d2)) (css := [[(.slice v8 v9 w1)]]) (fps := [([] : List Nat)]) (xs := ([x280] : List (List Int))) C6 ⟨(rs_unval l7), trivial⟩ (Nat.le_of_ble_eq_true rfl) (List.nodup_cons.2 ⟨(fun h => nomatch h), List.nodup_nil⟩)
      have w3 : (RT.os 43 (RT.rs (RT.int .i64))).val (Past a8 e6 d2) C4 (.slice (some ⟨w2, 0, none⟩) 1 1) [x280] [w2] := w3
      obtain ⟨y287, M1, hs⟩ := bind_some hs
      have hO := hO.fr1
      obtain ⟨w4, w5, w6, M2, M3, M4, i9, M5, w7⟩ := app_os Rw25 M1 c2 w3 hO.inM (fun g hg hq => hO.apart g hq (mem_l hg))
      have l8 := os_block c2
      refine pl_val (w' := M2) (.slice w4 w5 w6) (y_append rfl rfl (M4 _)) ?_
      have hO := hO.fr1
      have hO := hO.fr1
      have h0 := h0.mt i9 hO l8
      have a0 := a0.ap i9 hO l8 (mem_r (mem_l (List.mem_singleton.2 rfl)))
      have b1 := b1.mt i9 hO l8
      have o0 := o0.mt i9 hO l8
      have l7 := l7.mt i9 hO l8
      have hC := hC.st i9 hO l8
      have hO := hO.eat i9 M5 (os_nodup w7) w7.fpl
      refine pl_val (.slice w4 w5 w6) (y_assign rfl) ?_
      refine c_nil ?_
      refine c_region ?_
      refine pl_val (.int .i64 s249.2.2) (y_move rfl) ?_
      refine pl_val (.int .i64 (w64 (s249.2.2 + 1))) (y_add rfl rfl) ?_
      refine pl_val (.int .i64 (w64 (s249.2.2 + 1))) (y_assign rfl) ?_
      refine c_nil ?_
      cases hs
      have hO := hO.fr1
      have hO := hO.fr1
      exact ⟨_, (Past a8 e6 d2), C1, C2, C3, w4, w5, w6, M3, fr_ovl 172 ⟨rfl, rfl, rfl, rfl, rfl, rfl, rfl, trivial⟩, hC, hO, hK, h0, a0, b1, o0, w7⟩
     refine c_condF (congrArg Value.bool v5) ?_
     refine wp_skip ?_
     refine c_region ?_
     refine pl_val (.int .i64 s249.2.2) (y_move rfl) ?_
     refine pl_val (.int .i64 (w64 (s249.2.2 + 1))) (y_add rfl rfl) ?_
     refine pl_val (.int .i64 (w64 (s249.2.2 + 1))) (y_assign rfl) ?_
     refine c_nil ?_
     cases hs
     have hO := hO.fr1
     have hO := hO.fr1
     exact ⟨_, a8, i5, i6, i7, l3, l4, l5, n9, fr_ovl 172 ⟨rfl, rfl, rfl, rfl, rfl, rfl, rfl, trivial⟩, hC, hO, hK, h0, a0, b1, d1, c2⟩
    refine c_condF (congrArg Value.bool v3) ?_
    refine wp_exit ?_
    cases hs
    have hO := hO.fr1
    have hO := hO.fr1
    exact ⟨rfl, _, a8, i5, i6, i7, l3, l4, l5, n9, fr_ovl 172 ⟨rfl, rfl, rfl, rfl, rfl, trivial⟩, hC, hO, hK, h0, a0, b1, d1, c2⟩
   ·skip
    have hO := hO.fr1
    have hO := hO.fr1
    exact ⟨_, p5, (some ⟨a6, 0, none⟩), 0, 0, (some ⟨a7, 0, none⟩), 0, 0, J3, fr_ovl 172 ⟨rfl, rfl, rfl, rfl, rfl, rfl, rfl, trivial⟩, hC, hO, hK, h0, a0, b1, n8, v1⟩
   cases o253 with
   | nx _ => exact True.intro
   | rt r_ =>
    have hs := after_rt hs
    intro b8 k5 hK
    cases hs
    exact hK
   | br s249 =>
    have hs := after_br hs
    rintro b8 b5 ⟨σ, g3, p6, p7, p8, p9, q0, q1, q2, rfl, hC, hO, hK, h0, a0, b1, M6, M7⟩
    refine c_seq ?_
    refine c_sr ?_
    refine pl_val (.int .i64 0) (y_assign rfl) ?_
    refine c_nil ?_
    obtain ⟨o2570, M8, hs⟩ := bind_some hs
    refine wp_block ?_
    refine wp_iter (id := 6) (I := fun s2566 a b6 => ∃ (σ : Nat → Value) (g4 : Nat → Prop) (l9 : Option Addr) (m0 : Nat) (m1 : Nat) (g5 : Option Addr) (g6 : Nat) (g7 : Nat) (o1 : List Nat), a = fr 172 (ovl σ [(1, (.int .i64 k)), (3, (.pointer (some ⟨a1, 0, none⟩))), (8, (.slice l9 m0 m1)), (9, (.slice g5 g6 g7)), (10, (.int .i64 r9)), (17, (.int .i64 s2566.2.2))]) ∧ Chg [] w b6 ∧ Own (Nw w []) g4 b6 (o1 ++ (([a1]) ++ [])) ∧ Keeps w M g4 ∧ (RT.rs (RT.pr (RT.int .i64) (RT.rs (RT.int .i64)))).val g4 b6 (.slice pa0 pn0 pc0) a_.2 ([]) ∧ BoxV b6 a1 35 [(.int .i64 a_.1), (.slice pa0 pn0 pc0)] ∧ (RT.rs (RT.rs (RT.int .i64))).val g4 b6 (.slice l9 m0 m1) s2566.1 ([]) ∧ (RT.os 43 (RT.rs (RT.int .i64))).val g4 b6 (.slice g5 g6 g7) s2566.2.1 o1) (J := fun s2566 a b6 => ∃ (σ : Nat → Value) (m2 : Nat → Prop) (j0 : Option Addr) (j1 : Nat) (j2 : Nat) (C7 : Option Addr) (C8 : Nat) (C9 : Nat) (w8 : List Nat), a = fr 172 (ovl σ [(8, (.slice j0 j1 j2)), (10, (.int .i64 r9))]) ∧ Chg [] w b6 ∧ Own (Nw w []) m2 b6 (w8 ++ (([a1]) ++ [])) ∧ Keeps w M m2 ∧ (RT.rs (RT.pr (RT.int .i64) (RT.rs (RT.int .i64)))).val m2 b6 (.slice pa0 pn0 pc0) a_.2 ([]) ∧ BoxV b6 a1 35 [(.int .i64 a_.1), (.slice pa0 pn0 pc0)] ∧ (RT.rs (RT.rs (RT.int .i64))).val m2 b6 (.slice j0 j1 j2) s2566.1 ([]) ∧ (RT.os 43 (RT.rs (RT.int .i64))).val m2 b6 (.slice C7 C8 C9) s2566.2.1 w8) (K := (k_spec_l8Close M w)) ?_ FU (s249.1, s249.2.1, 0) o2570 _ _ ?_ M8 ?_
    ·rintro s2566 o2570 a b6 ⟨σ, g4, l9, m0, m1, g5, g6, g7, o1, rfl, hC, hO, hK, h0, a0, q4, m3⟩ hs
     refine c_seq ?_
     refine c_seq ?_
     refine c_mid (I := fun a D0 => ∃ (σ : Nat → Value), a = fr 172 (ovl σ [(1, (.int .i64 k)), (3, (.pointer (some ⟨a1, 0, none⟩))), (8, (.slice l9 m0 m1)), (9, (.slice g5 g6 g7)), (10, (.int .i64 r9)), (17, (.int .i64 s2566.2.2)), (104, (.bool ((decide (s2566.2.2 < (s2566.2.1.length : Int))) && (decide ((s2566.2.1.length : Int) ≤ r9)))))]) ∧ Chg [] b6 D0) ?_ ?_
     ·have hMid := Chg.refl [] b6
      refine c_region ?_
      refine pl_val (.int .i64 s2566.2.2) (y_move rfl) ?_
      refine pl_val (.slice g5 g6 g7) (y_move rfl) ?_
      refine pl_val (.int .i64 (s2566.2.1.length : Int)) (y_len' Sl25 (os_len m3) rfl) ?_
      refine pl_val (.bool (decide (s2566.2.2 < (s2566.2.1.length : Int)))) (y_lss rfl rfl) ?_
      refine pl_val (.bool (decide (s2566.2.2 < (s2566.2.1.length : Int)))) (y_move rfl) ?_
      rcases Bool.eq_false_or_eq_true ((decide (s2566.2.2 < (s2566.2.1.length : Int)))) with b9 | b9
      ·skip
       refine pl_yes (.slice g5 g6 g7) (tg := 99) (by kernel_rfl) (congrArg Value.bool b9) (y_move rfl) ?_
       refine pl_yes (.int .i64 (s2566.2.1.length : Int)) (tg := 99) (by kernel_rfl) (congrArg Value.bool b9) (y_len' Sl25 (os_len m3) rfl) ?_
       refine pl_yes (.int .i64 r9) (tg := 99) (by kernel_rfl) (congrArg Value.bool b9) (y_move rfl) ?_
       refine pl_yes (.bool (decide ((s2566.2.1.length : Int) ≤ r9))) (tg := 99) (by kernel_rfl) (congrArg Value.bool b9) (y_leq rfl rfl) ?_
       refine pl_val (.bool ((decide (s2566.2.2 < (s2566.2.1.length : Int))) && (decide ((s2566.2.1.length : Int) ≤ r9)))) (y_pick_t (congrArg Value.bool b9) (congrArg Value.bool (by rw [b9]; rfl))) ?_
       refine c_nil ?_
       exact ⟨_, fr_ovl 172 ⟨rfl, rfl, rfl, rfl, rfl, rfl, rfl, trivial⟩, hMid⟩
      refine pl_not (tg := 99) (by kernel_rfl) (congrArg Value.bool b9) ?_
      refine pl_not (tg := 99) (by kernel_rfl) (congrArg Value.bool b9) ?_
      refine pl_not (tg := 99) (by kernel_rfl) (congrArg Value.bool b9) ?_
      refine pl_not (tg := 99) (by kernel_rfl) (congrArg Value.bool b9) ?_
      refine pl_val (.bool ((decide (s2566.2.2 < (s2566.2.1.length : Int))) && (decide ((s2566.2.1.length : Int) ≤ r9)))) (y_pick_f (congrArg Value.bool b9) (congrArg Value.bool (by rw [b9]; rfl))) ?_
      refine c_nil ?_
      exact ⟨_, fr_ovl 172 ⟨rfl, rfl, rfl, rfl, rfl, rfl, rfl, trivial⟩, hMid⟩
     rintro b8 D0 ⟨σ, rfl, m4⟩
     have h0 := h0.ext m4
     have a0 := a0.cn m4
     have q4 := q4.ext m4
     have m3 := m3.ext m4
     have hC := hC.ext m4
     have hO := hO.ext m4
     rcases bif_some hs with ⟨w9, hs⟩ | ⟨w9, hs⟩
     ·refine c_condT (congrArg Value.bool w9) ?_
      refine wp_skip ?_
      refine c_seq ?_
      refine wp_block ?_
      refine c_sr ?_
      refine pl_val (.int .i64 0) (y_assign rfl) ?_
      refine c_nil ?_
      obtain ⟨o3336, M9, hs⟩ := bind_some hs
      refine wp_block ?_
      refine wp_forC (id := 8) (a_.2.length : Int) (I := fun k3334 s3332 a b4 => ∃ (σ : Nat → Value) (d3 : Nat → Prop) (m5 : Option Addr) (m6 : Nat) (m7 : Nat) (m8 : Option Addr) (m9 : Nat) (n0 : Nat) (n1 : List Nat), a = fr 172 (ovl σ [(1, (.int .i64 k)), (3, (.pointer (some ⟨a1, 0, none⟩))), (8, (.slice m5 m6 m7)), (9, (.slice m8 m9 n0)), (10, (.int .i64 r9)), (17, (.int .i64 s2566.2.2)), (18, (.int .i64 k3334))]) ∧ Chg [] w b4 ∧ Own (Nw w []) d3 b4 (n1 ++ (([a1]) ++ [])) ∧ Keeps w M d3 ∧ (RT.rs (RT.pr (RT.int .i64) (RT.rs (RT.int .i64)))).val d3 b4 (.slice pa0 pn0 pc0) a_.2 ([]) ∧ BoxV b4 a1 35 [(.int .i64 a_.1), (.slice pa0 pn0 pc0)] ∧ (RT.rs (RT.rs (RT.int .i64))).val d3 b4 (.slice m5 m6 m7) s3332.1 ([]) ∧ (RT.os 43 (RT.rs (RT.int .i64))).val d3 b4 (.slice m8 m9 n0) s3332.2 n1) (J := fun s3332 a b4 => ∃ (σ : Nat → Value) (j3 : Nat → Prop) (q5 : Option Addr) (q6 : Nat) (q7 : Nat) (q8 : Option Addr) (q9 : Nat) (r0 : Nat) (r1 : List Nat), a = fr 172 (ovl σ [(1, (.int .i64 k)), (3, (.pointer (some ⟨a1, 0, none⟩))), (8, (.slice q5 q6 q7)), (9, (.slice q8 q9 r0)), (10, (.int .i64 r9)), (17, (.int .i64 s2566.2.2))]) ∧ Chg [] w b4 ∧ Own (Nw w []) j3 b4 (r1 ++ (([a1]) ++ [])) ∧ Keeps w M j3 ∧ (RT.rs (RT.pr (RT.int .i64) (RT.rs (RT.int .i64)))).val j3 b4 (.slice pa0 pn0 pc0) a_.2 ([]) ∧ BoxV b4 a1 35 [(.int .i64 a_.1), (.slice pa0 pn0 pc0)] ∧ (RT.rs (RT.rs (RT.int .i64))).val j3 b4 (.slice q5 q6 q7) s3332.1 ([]) ∧ (RT.os 43 (RT.rs (RT.int .i64))).val j3 b4 (.slice q8 q9 r0) s3332.2 r1) (K := (k_spec_l8Close M w)) ?_ ?_ 0 (s2566.1, s2566.2.1) o3336 _ _ ?_ M9 ?_
      ·rintro k3334 s3332 a b4 ⟨σ, d3, m5, m6, m7, m8, m9, n0, n1, rfl, hC, hO, hK, h0, a0, j4, j5⟩ hlt
       refine c_seq ?_
       refine c_sr ?_
       refine pl_val (.int .i64 k3334) (y_move rfl) ?_
       refine pl_val (.pointer (some ⟨a1, 1, none⟩)) (y_faddr rfl Fa35x1) ?_
       refine pl_val (.slice pa0 pn0 pc0) (y_load rfl ((box_load Ag33 Sz33 a0 [(.int .i64 a_.1)] [(.slice pa0 pn0 pc0)] [] rfl rfl (fun _ => rfl)) _ (Chg.refl _ _))) ?_
       refine pl_val (.int .i64 (a_.2.length : Int)) (y_len' Sl33 (rs_len h0) rfl) ?_
       refine pl_val (.bool (decide (k3334 < (a_.2.length : Int)))) (y_lss rfl rfl) ?_
       refine c_nil ?_
       refine c_condF (congrArg Value.bool (decide_eq_false hlt)) ?_
       refine wp_exit ?_
       have hO := hO.fr1
       have hO := hO.fr1
       exact ⟨rfl, _, d3, m5, m6, m7, m8, m9, n0, n1, fr_ovl 172 ⟨rfl, rfl, rfl, rfl, rfl, rfl, trivial⟩, hC, hO, hK, h0, a0, j4, j5⟩
      ·rintro k3334 s3332 o3336 a b4 ⟨σ, d3, m5, m6, m7, m8, m9, n0, n1, rfl, hC, hO, hK, h0, a0, j4, j5⟩ hlt hw hs
       refine c_seq ?_
       refine c_sr ?_
       refine pl_val (.int .i64 k3334) (y_move rfl) ?_
       refine pl_val (.pointer (some ⟨a1, 1, none⟩)) (y_faddr rfl Fa35x1) ?_
       refine pl_val (.slice pa0 pn0 pc0) (y_load rfl ((box_load Ag33 Sz33 a0 [(.int .i64 a_.1)] [(.slice pa0 pn0 pc0)] [] rfl rfl (fun _ => rfl)) _ (Chg.refl _ _))) ?_
       refine pl_val (.int .i64 (a_.2.length : Int)) (y_len' Sl33 (rs_len h0) rfl) ?_
       refine pl_val (.bool (decide (k3334 < (a_.2.length : Int)))) (y_lss rfl rfl) ?_
       refine c_nil ?_
       refine c_condT (congrArg Value.bool (decide_eq_true hlt)) ?_
       refine wp_skip ?_
       refine c_seq ?_
       refine wp_block ?_
       refine c_seq ?_
       refine x_start [] Mx rfl ?_
       have j6 := Chg.drew b4
       generalize World.drew b4 = D1 at j6 ⊢
       have h0 := h0.ext j6
       have a0 := a0.cn j6
       have j4 := j4.ext j6
       have j5 := j5.ext j6
       have hC := hC.ext j6
       have hO := hO.ext j6
       have hS := Chg.refl [] D1
       refine x_p 0 (.pointer (some ⟨a1, 1, none⟩)) rfl (by kernel_rfl)  (fun _ => y_faddr rfl Fa35x1) (fun _ => hS) ?_
       refine x_l 1 (.slice pa0 pn0 pc0) rfl (by kernel_rfl)  (fun w' hw' => y_load rfl ((box_load Ag33 Sz33 a0 [(.int .i64 a_.1)] [(.slice pa0 pn0 pc0)] [] rfl rfl (fun _ => rfl)) w' hw')) hS ?_
       refine x_p 2 (.int .i64 k3334) rfl (by kernel_rfl)  (fun _ => y_move rfl) (fun _ => hS) ?_
       obtain ⟨x3359, N0, hs⟩ := bind_some hs
       obtain ⟨D2, D3, N1, x0⟩ := rs_idx Sl33 Sz89 h0 N0
       refine x_p 3 (.pointer (some ⟨D2, D3, none⟩)) rfl (by kernel_rfl)  (fun _ => N1 _ _ _ _ _ _ _ _ _ rfl rfl) (fun _ => hS) ?_
       obtain ⟨x1, _⟩ := pr_at x0
       refine x_p 4 (.pointer (some ⟨D2, D3 + 0, none⟩)) rfl (by kernel_rfl)  (fun _ => y_faddr rfl Fa89x0) (fun _ => hS) ?_
       refine x_l 5 (.int .i64 x3359.1) rfl (by kernel_rfl)  (fun w' hw' => y_load rfl ((at_load_int Ag3 Sz3 x1) w' hw')) hS ?_
       refine x_p 7 (.pointer (some ⟨a1, 1, none⟩)) rfl (by kernel_rfl)  (fun _ => y_faddr rfl Fa35x1) (fun _ => hS) ?_
       refine x_l 8 (.slice pa0 pn0 pc0) rfl (by kernel_rfl)  (fun w' hw' => y_load rfl ((box_load Ag33 Sz33 a0 [(.int .i64 a_.1)] [(.slice pa0 pn0 pc0)] [] rfl rfl (fun _ => rfl)) w' hw')) hS ?_
       refine x_p 9 (.int .i64 k3334) rfl (by kernel_rfl)  (fun _ => y_move rfl) (fun _ => hS) ?_
       obtain ⟨x3362, N2, hs⟩ := bind_some hs
       obtain ⟨D4, D5, N3, x2⟩ := rs_idx Sl33 Sz89 h0 N2
       refine x_p 10 (.pointer (some ⟨D4, D5, none⟩)) rfl (by kernel_rfl)  (fun _ => N3 _ _ _ _ _ _ _ _ _ rfl rfl) (fun _ => hS) ?_
       obtain ⟨x3, _⟩ := pr_at x2
       refine x_p 11 (.pointer (some ⟨D4, D5 + 0, none⟩)) rfl (by kernel_rfl)  (fun _ => y_faddr rfl Fa89x0) (fun _ => hS) ?_
       refine x_l 12 (.int .i64 x3362.1) rfl (by kernel_rfl)  (fun w' hw' => y_load rfl ((at_load_int Ag3 Sz3 x3) w' hw')) hS ?_
       refine x_p 13 (.bool (decide (0 < x3362.1))) rfl (by kernel_rfl)  (fun _ => y_gtr rfl rfl) (fun _ => hS) ?_
       refine x_one (i := 6) (by kernel_rfl) ?_
       obtain ⟨y3366, N4, hs⟩ := bind_some hs
       obtain ⟨x4, x5, x6, N5, N6, N7, c3, N8, x7⟩ := mk_os (M := d3) (w := D1) (r := (RT.int .i64)) Rw43 N4 (fun _ _ => ⟨rfl, rfl⟩)
       refine xk_val (w' := N5) (b := false) (.slice x4 x5 x6) rfl  (y_make rfl rfl N7) rfl (fun _ => hS.ext c3) ?_
       have h0 := h0.ext c3
       have a0 := a0.cn c3
       have j4 := j4.ext c3
       have j5 := j5.ext c3
       have x0 := at_ext x0 c3
       have x1 := at_ext x1 c3
       have x2 := at_ext x2 c3
       have x3 := at_ext x3 c3
       have hC := hC.ext c3
       have hO := hO.new c3 N8 (os_nodup x7) x7.fpl
       have hS := hS.ext c3
       refine x_p 14 (.slice x4 x5 x6) rfl (by kernel_rfl)  (fun _ => y_assign rfl) (fun _ => hS) ?_
       refine x_p 15 (.bool (decide (0 < x3362.1))) rfl (by kernel_rfl)  (fun _ => y_assign rfl) (fun _ => hS) ?_
       refine x_end (by kernel_rfl) ?_
       clear hS
       obtain ⟨o3595, N9, hs⟩ := bind_some hs
       refine wp_block ?_
       refine wp_iter (id := 10) (I := fun s3591 a b3 => ∃ (σ : Nat → Value) (f0 : Nat → Prop) (f1 : Option Addr) (f2 : Nat) (f3 : Nat) (d4 : Option Addr) (d5 : Nat) (d6 : Nat) (j7 : List Nat) (d7 : Option Addr) (d8 : Nat) (d9 : Nat) (o2 : List Nat), a = fr 172 (ovl σ [(1, (.int .i64 k)), (3, (.pointer (some ⟨a1, 0, none⟩))), (8, (.slice f1 f2 f3)), (9, (.slice d4 d5 d6)), (10, (.int .i64 r9)), (17, (.int .i64 s2566.2.2)), (18, (.int .i64 k3334)), (19, (.slice d7 d8 d9)), (20, (.bool s3591.2.2.2))]) ∧ Chg [] w b3 ∧ Own (Nw w []) f0 b3 (j7 ++ (o2 ++ (([a1]) ++ []))) ∧ Keeps w M f0 ∧ (RT.rs (RT.pr (RT.int .i64) (RT.rs (RT.int .i64)))).val f0 b3 (.slice pa0 pn0 pc0) a_.2 ([]) ∧ BoxV b3 a1 35 [(.int .i64 a_.1), (.slice pa0 pn0 pc0)] ∧ (RT.rs (RT.rs (RT.int .i64))).val f0 b3 (.slice f1 f2 f3) s3591.1 ([]) ∧ (RT.os 43 (RT.rs (RT.int .i64))).val f0 b3 (.slice d4 d5 d6) s3591.2.1 j7 ∧ (RT.os 3 (RT.int .i64)).val f0 b3 (.slice d7 d8 d9) s3591.2.2.1 o2) (J := fun s3591 a b3 => ∃ (σ : Nat → Value) (g8 : Nat → Prop) (r2 : Option Addr) (r3 : Nat) (r4 : Nat) (r5 : Option Addr) (r6 : Nat) (r7 : Nat) (r8 : List Nat) (D6 : Option Addr) (D7 : Nat) (D8 : Nat) (x8 : List Nat), a = fr 172 (ovl σ [(1, (.int .i64 k)), (3, (.pointer (some ⟨a1, 0, none⟩))), (8, (.slice r2 r3 r4)), (9, (.slice r5 r6 r7)), (10, (.int .i64 r9)), (17, (.int .i64 s2566.2.2)), (18, (.int .i64 k3334))]) ∧ Chg [] w b3 ∧ Own (Nw w []) g8 b3 (r8 ++ (x8 ++ (([a1]) ++ []))) ∧ Keeps w M g8 ∧ (RT.rs (RT.pr (RT.int .i64) (RT.rs (RT.int .i64)))).val g8 b3 (.slice pa0 pn0 pc0) a_.2 ([]) ∧ BoxV b3 a1 35 [(.int .i64 a_.1), (.slice pa0 pn0 pc0)] ∧ (RT.rs (RT.rs (RT.int .i64))).val g8 b3 (.slice r2 r3 r4) s3591.1 ([]) ∧ (RT.os 43 (RT.rs (RT.int .i64))).val g8 b3 (.slice r5 r6 r7) s3591.2.1 r8 ∧ (RT.os 3 (RT.int .i64)).val g8 b3 (.slice D6 D7 D8) s3591.2.2.1 x8) (K := (k_spec_l8Close M w)) ?_ FU (s3332.1, s3332.2, y3366, (decide (0 < x3362.1))) o3595 _ _ ?_ N9 ?_
       ·rintro s3591 o3595 a b3 ⟨σ, f0, f1, f2, f3, d4, d5, d6, j7, d7, d8, d9, o2, rfl, hC, hO, hK, h0, a0, a5, a4, e0⟩ hs
        refine c_seq ?_
        refine c_seq ?_
        refine c_mid (I := fun a D9 => ∃ (σ : Nat → Value), a = fr 172 (ovl σ [(1, (.int .i64 k)), (3, (.pointer (some ⟨a1, 0, none⟩))), (8, (.slice f1 f2 f3)), (9, (.slice d4 d5 d6)), (10, (.int .i64 r9)), (17, (.int .i64 s2566.2.2)), (18, (.int .i64 k3334)), (19, (.slice d7 d8 d9)), (20, (.bool s3591.2.2.2)), (134, (.bool (s3591.2.2.2 && (decide ((s3591.2.1.length : Int) ≤ r9)))))]) ∧ Chg [] b3 D9) ?_ ?_
        ·have hMid := Chg.refl [] b3
         refine c_region ?_
         refine pl_val (.bool s3591.2.2.2) (y_move rfl) ?_
         refine pl_val (.bool s3591.2.2.2) (y_move rfl) ?_
         rcases Bool.eq_false_or_eq_true (s3591.2.2.2) with c0 | c0
         ·skip
          refine pl_yes (.slice d4 d5 d6) (tg := 129) (by kernel_rfl) (congrArg Value.bool c0) (y_move rfl) ?_
          refine pl_yes (.int .i64 (s3591.2.1.length : Int)) (tg := 129) (by kernel_rfl) (congrArg Value.bool c0) (y_len' Sl25 (os_len a4) rfl) ?_
          refine pl_yes (.int .i64 r9) (tg := 129) (by kernel_rfl) (congrArg Value.bool c0) (y_move rfl) ?_
          refine pl_yes (.bool (decide ((s3591.2.1.length : Int) ≤ r9))) (tg := 129) (by kernel_rfl) (congrArg Value.bool c0) (y_leq rfl rfl) ?_
          refine pl_val (.bool (s3591.2.2.2 && (decide ((s3591.2.1.length : Int) ≤ r9)))) (y_pick_t (congrArg Value.bool c0) (congrArg Value.bool (by rw [c0]; rfl))) ?_
          refine c_nil ?_
          exact ⟨_, fr_ovl 172 ⟨rfl, rfl, rfl, rfl, rfl, rfl, rfl, rfl, rfl, rfl, trivial⟩, hMid⟩
         refine pl_not (tg := 129) (by kernel_rfl) (congrArg Value.bool c0) ?_
         refine pl_not (tg := 129) (by kernel_rfl) (congrArg Value.bool c0) ?_
         refine pl_not (tg := 129) (by kernel_rfl) (congrArg Value.bool c0) ?_
         refine pl_not (tg := 129) (by kernel_rfl) (congrArg Value.bool c0) ?_
         refine pl_val (.bool (s3591.2.2.2 && (decide ((s3591.2.1.length : Int) ≤ r9)))) (y_pick_f (congrArg Value.bool c0) (congrArg Value.bool (by rw [c0]; rfl))) ?_
         refine c_nil ?_
         exact ⟨_, fr_ovl 172 ⟨rfl, rfl, rfl, rfl, rfl, rfl, rfl, rfl, rfl, rfl, trivial⟩, hMid⟩
        rintro b8 D9 ⟨σ, rfl, j8⟩
        have h0 := h0.ext j8
        have a0 := a0.cn j8
        have a5 := a5.ext j8
        have a4 := a4.ext j8
        have e0 := e0.ext j8
        have hC := hC.ext j8
        have hO := hO.ext j8
        rcases bif_some hs with ⟨x9, hs⟩ | ⟨x9, hs⟩
        ·refine c_condT (congrArg Value.bool x9) ?_
         refine wp_skip ?_
         refine wp_block ?_
         refine c_seq ?_
         refine c_sr ?_
         refine pl_val (.slice d7 d8 d9) (y_move rfl) ?_
         refine pl_val (.int .i64 s2566.2.2) (y_move rfl) ?_
         have hO := hO.fr1
         obtain ⟨r3617, O0, hs⟩ := bind_some hs
         refine pl_call Bd72 rfl (c_spec_l1Has (M := (Less f0 o2)) s3591.2.2.1 s2566.2.2 (((Frz.os Frz.int)).val e0 Less.sub Less.not) hO.less.fut O0) ?_
         rintro _ E0 ⟨rfl, j9⟩
         have h0 := h0.ext j9
         have a0 := a0.cn j9
         have a5 := a5.ext j9
         have a4 := a4.ext j9
         have e0 := e0.ext j9
         have hC := hC.ext j9
         have hO := hO.ext j9
         refine c_nil ?_
         obtain ⟨s3674, O1, hs⟩ := bind_some hs
         refine c_mid (I := fun a g9 => ∃ (σ : Nat → Value) (f4 : Nat → Prop) (s0 : Option Addr) (s1 : Nat) (s2 : Nat) (s3 : Option Addr) (s4 : Nat) (s5 : Nat) (o3 : List Nat), a = fr 172 (ovl σ [(1, (.int .i64 k)), (3, (.pointer (some ⟨a1, 0, none⟩))), (8, (.slice s0 s1 s2)), (9, (.slice s3 s4 s5)), (10, (.int .i64 r9)), (17, (.int .i64 s2566.2.2)), (18, (.int .i64 k3334)), (19, (.slice d7 d8 d9)), (20, (.bool s3591.2.2.2))]) ∧ Chg [] w g9 ∧ Own (Nw w []) f4 g9 (o3 ++ (([a1]) ++ [])) ∧ Keeps w M f4 ∧ (RT.rs (RT.pr (RT.int .i64) (RT.rs (RT.int .i64)))).val f4 g9 (.slice pa0 pn0 pc0) a_.2 ([]) ∧ BoxV g9 a1 35 [(.int .i64 a_.1), (.slice pa0 pn0 pc0)] ∧ (RT.rs (RT.int .i64)).val f4 g9 (.slice d7 d8 d9) s3674.2.2 ([]) ∧ (RT.rs (RT.rs (RT.int .i64))).val f4 g9 (.slice s0 s1 s2) s3674.1 ([]) ∧ (RT.os 43 (RT.rs (RT.int .i64))).val f4 g9 (.slice s3 s4 s5) s3674.2.1 o3) ?_ ?_
         ·replace hs := O1
          rcases bif_some hs with ⟨y0, hs⟩ | ⟨y0, hs⟩
          ·refine c_condT (congrArg Value.bool y0) ?_
           refine c_seq ?_
           refine x_start [] Mx rfl ?_
           have h2 := Chg.drew E0
           generalize World.drew E0 = f5 at h2 ⊢
           have h0 := h0.ext h2
           have a0 := a0.cn h2
           have a5 := a5.ext h2
           have a4 := a4.ext h2
           have e0 := e0.ext h2
           have hC := hC.ext h2
           have hO := hO.ext h2
           have hS := Chg.refl [] f5
           refine x_l 0 (.agg #[(.int .i64 a_.1), (.slice pa0 pn0 pc0)]) rfl (by kernel_rfl)  (fun w' hw' => y_load rfl ((box_load Ag35 Sz35 a0 [] [(.int .i64 a_.1), (.slice pa0 pn0 pc0)] [] rfl rfl (fun h => nomatch h)) w' hw')) hS ?_
           refine x_p 1 (.int .i64 k3334) rfl (by kernel_rfl)  (fun _ => y_move rfl) (fun _ => hS) ?_
           refine x_p 2 (.slice d4 d5 d6) rfl (by kernel_rfl)  (fun _ => y_move rfl) (fun _ => hS) ?_
           refine x_p 3 (.slice d7 d8 d9) rfl (by kernel_rfl)  (fun _ => y_move rfl) (fun _ => hS) ?_
           refine x_p 5 (.int .i64 k) rfl (by kernel_rfl)  (fun _ => y_move rfl) (fun _ => hS) ?_
           refine x_one (i := 4) (by kernel_rfl) ?_
           obtain ⟨c1, R2, y1, O2, hO, a9⟩ := frz_own (Frz.os Frz.int) e0 hO
           have h0 := h0.sub (M' := c1) y1
           have a5 := a5.sub (M' := c1) y1
           have a4 := a4.sub (M' := c1) y1
           have hK := hK.trans O2
           obtain ⟨r3695, O3, hs⟩ := bind_some hs
           refine xk_call (b := false) rfl  Bd73 rfl (c_spec_l8Choose__sh (M := c1) s3591.2.1 s3591.2.2.1 a4 a9 hO.fut O3) rfl (by rintro _ _ _ ⟨O4, O5, O6, rfl, e1, n2⟩; exact hS.ext e1) ?_
           rintro _ h3 ⟨O4, O5, O6, rfl, e1, n2⟩
           have hK := hK.trans (show Keeps w c1 (Past c1 f5 h3) from Keeps.past hC.size)
           have h0 := h0.ext e1
           have a0 := a0.cn e1
           have a5 := a5.ext e1
           have a4 := a4.ext e1
           have a9 := a9.ext e1
           have hC := hC.ext e1
           have hO := hO.past e1
           have h0 := h0.sub (M' := (Past c1 f5 h3)) (fun g hg => .inl hg.1)
           have a5 := a5.sub (M' := (Past c1 f5 h3)) (fun g hg => .inl hg.1)
           have a4 := a4.sub (M' := (Past c1 f5 h3)) (fun g hg => .inl hg.1)
           have a9 := a9.sub (M' := (Past c1 f5 h3)) (fun g hg => .inl hg.1)
           have hS := hS.ext e1
           refine x_one (i := 6) (by kernel_rfl) ?_
           obtain ⟨r3698, O7, hs⟩ := bind_some hs
           refine xk_call (b := false) rfl  Bd70 rfl (c_spec_l8Apply (M := (Past c1 f5 h3)) (a_.1, a_.2) k3334 r3695 k h0 n2 hO.fut O7) rfl (by rintro _ _ _ ⟨k0, k1, k2, y2, rfl, c6, o4, E1⟩; exact hS.ext c6) ?_
           rintro _ R3 ⟨k0, k1, k2, y2, rfl, c6, o4, E1⟩
           have h0 := h0.ext c6
           have a0 := a0.cn c6
           have a5 := a5.ext c6
           have a4 := a4.ext c6
           have a9 := a9.ext c6
           have n2 := n2.ext c6
           have hC := hC.ext c6
           have hO := Own.join0 hO c6 E1
           have hO := hO.perm (R := y2 ++ (j7 ++ (([a1]) ++ ([])))) (by simp)
           have hS := hS.ext c6
           refine x_p 7 (.slice k0 k1 k2) rfl (by kernel_rfl)  (fun _ => y_assign rfl) (fun _ => hS) ?_
           refine x_end (by kernel_rfl) ?_
           clear hS
           refine c_sr ?_
           refine pl_val (.slice f1 f2 f3) (y_move rfl) ?_
           refine pl_val (.slice k0 k1 k2) (y_move rfl) ?_
           obtain ⟨r3701, O8, hs⟩ := bind_some hs
           refine pl_call Bd46 rfl (c_spec_l8Find (M := (Less (Past c1 f5 h3) y2)) s3591.1 r3698 (a5.sub Less.sub) (((Frz.os Frz.int)).val o4 Less.sub Less.not) hO.less.fut O8) ?_
           rintro _ f6 ⟨rfl, f7⟩
           have h0 := h0.ext f7
           have a0 := a0.cn f7
           have a5 := a5.ext f7
           have a4 := a4.ext f7
           have a9 := a9.ext f7
           have n2 := n2.ext f7
           have o4 := o4.ext f7
           have hC := hC.ext f7
           have hO := hO.ext f7
           refine pl_val (.tuple #[(.int .i64 r3701.1), (.bool r3701.2)]) (y_move rfl) ?_
           refine pl_val (.int .i64 r3701.1) (y_extract rfl (by kernel_rfl)) ?_
           refine pl_val (.bool r3701.2) (y_extract rfl (by kernel_rfl)) ?_
           refine pl_val (.int .i64 r3701.1) (y_assign rfl) ?_
           refine pl_val (.bool r3701.2) (y_assign rfl) ?_
           refine c_nil ?_
           refine c_sr ?_
           refine pl_val (.bool r3701.2) (y_move rfl) ?_
           refine pl_val (.bool (!r3701.2)) (y_not rfl) ?_
           refine c_nil ?_
           rcases bif_some hs with ⟨y3, hs⟩ | ⟨y3, hs⟩
           ·refine c_condT (congrArg Value.bool y3) ?_
            refine c_sr ?_
            refine pl_val (.slice f1 f2 f3) (y_move rfl) ?_
            refine pl_val (.slice k0 k1 k2) (y_move rfl) ?_
            obtain ⟨b7, R4, s6, O9, hO, e2⟩ := frz_own (Frz.os Frz.int) o4 hO
            have h0 := h0.sub (M' := b7) s6
            have a5 := a5.sub (M' := b7) s6
            have a4 := a4.sub (M' := b7) s6
            have a9 := a9.sub (M' := b7) s6
            have hK := hK.trans O9
            obtain ⟨r3705, P0, hs⟩ := bind_some hs
            refine pl_call Bd71 rfl (c_spec_l8Put (M := b7) s3591.1 r3698 a5 e2 hO.fut P0) ?_
            rintro _ e3 ⟨E2, E3, E4, rfl, h4, o5⟩
            have hK := hK.trans (show Keeps w b7 (Past b7 f6 e3) from Keeps.past hC.size)
            have h0 := h0.ext h4
            have a0 := a0.cn h4
            have a5 := a5.ext h4
            have a4 := a4.ext h4
            have a9 := a9.ext h4
            have e2 := e2.ext h4
            have hC := hC.ext h4
            have hO := hO.past h4
            have h0 := h0.sub (M' := (Past b7 f6 e3)) (fun g hg => .inl hg.1)
            have a5 := a5.sub (M' := (Past b7 f6 e3)) (fun g hg => .inl hg.1)
            have a4 := a4.sub (M' := (Past b7 f6 e3)) (fun g hg => .inl hg.1)
            have a9 := a9.sub (M' := (Past b7 f6 e3)) (fun g hg => .inl hg.1)
            have e2 := e2.sub (M' := (Past b7 f6 e3)) (fun g hg => .inl hg.1)
            refine pl_val (.slice E2 E3 E4) (y_assign rfl) ?_
            refine c_nil ?_
            refine c_region ?_
            refine pl_val (.slice d4 d5 d6) (y_move rfl) ?_
            refine pl_val (.slice k0 k1 k2) (y_move rfl) ?_
            obtain ⟨E5, y4, P1, E6, h5, E7⟩ := new_block e3 [(.slice k0 k1 k2)] 43
            refine pl_val (w' := E5) (.slice (some ⟨y4, 0, none⟩) 1 1) (y_bslice rfl (by rw [P1, E6]; kernel_rfl)) ?_
            have h0 := h0.ext h5
            have a0 := a0.cn h5
            have a4 := a4.ext h5
            have a9 := a9.ext h5
            have e2 := e2.ext h5
            have o5 := o5.ext h5
            have hC := hC.ext h5
            have hO := hO.new1 h5 E6 E7.lt
            have y5 := os_of_box (r := (RT.rs (RT.int .i64))) (M := (Past b7 f6 e3)) (css := [[(.slice k0 k1 k2)]]) (fps := [([] : List Nat)]) (xs := ([r3698] : List (List Int))) E7 ⟨(rs_unval e2), trivial⟩ (Nat.le_of_ble_eq_true rfl) (List.nodup_cons.2 ⟨(fun h => nomatch h), List.nodup_nil⟩)
            have y5 : (RT.os 43 (RT.rs (RT.int .i64))).val (Past b7 f6 e3) E5 (.slice (some ⟨y4, 0, none⟩) 1 1) [r3698] [y4] := y5
            obtain ⟨y3710, P2, hs⟩ := bind_some hs
            have hO := hO.fr1
            obtain ⟨y6, y7, y8, P3, P4, P5, k3, P6, y9⟩ := app_os Rw25 P2 a4 y5 hO.inM (fun g hg hq => hO.apart g hq (mem_l hg))
            have n3 := os_block a4
            refine pl_val (w' := P3) (.slice y6 y7 y8) (y_append rfl rfl (P5 _)) ?_
            have hO := hO.fr1
            have hO := hO.fr1
            have h0 := h0.mt k3 hO n3
            have a0 := a0.ap k3 hO n3 (mem_r (mem_l (List.mem_singleton.2 rfl)))
            have a9 := a9.mt k3 hO n3
            have e2 := e2.mt k3 hO n3
            have o5 := o5.mt k3 hO n3
            have hC := hC.st k3 hO n3
            have hO := hO.eat k3 P6 (os_nodup y9) y9.fpl
            refine pl_val (.slice y6 y7 y8) (y_assign rfl) ?_
            refine c_nil ?_
            cases hs
            have hO := hO.fr1
            have hO := hO.fr1
            exact ⟨_, (Past b7 f6 e3), E2, E3, E4, y6, y7, y8, P4, fr_ovl 172 ⟨rfl, rfl, rfl, rfl, rfl, rfl, rfl, rfl, rfl, trivial⟩, hC, hO, hK, h0, a0, a9, o5, y9⟩
           refine c_condF (congrArg Value.bool y3) ?_
           refine wp_skip ?_
           cases hs
           have hO := hO.drop
           have hO := hO.fr1
           have hO := hO.fr1
           exact ⟨_, (Past c1 f5 h3), f1, f2, f3, d4, d5, d6, j7, fr_ovl 172 ⟨rfl, rfl, rfl, rfl, rfl, rfl, rfl, rfl, rfl, trivial⟩, hC, hO, hK, h0, a0, a9, a5, a4⟩
          refine c_condF (congrArg Value.bool y0) ?_
          refine wp_skip ?_
          cases hs
          obtain ⟨s7, R5, z0, P7, hO, P8⟩ := frz_own (Frz.os Frz.int) e0 hO
          have h0 := h0.sub (M' := s7) z0
          have a5 := a5.sub (M' := s7) z0
          have a4 := a4.sub (M' := s7) z0
          have hK := hK.trans P7
          have hO := hO.fr1
          have hO := hO.fr1
          exact ⟨_, s7, f1, f2, f3, d4, d5, d6, j7, fr_ovl 172 ⟨rfl, rfl, rfl, rfl, rfl, rfl, rfl, rfl, rfl, trivial⟩, hC, hO, hK, h0, a0, P8, a5, a4⟩
         rintro b8 g9 ⟨σ, f4, s0, s1, s2, s3, s4, s5, o3, rfl, hC, hO, hK, h0, a0, z1, z2, z3⟩
         refine c_region ?_
         refine pl_val (.slice d7 d8 d9) (y_move rfl) ?_
         refine pl_val (.int .i64 s2566.2.2) (y_move rfl) ?_
         refine pl_val (.int .i64 (w64 (s2566.2.2 + 1))) (y_add rfl rfl) ?_
         obtain ⟨r3714, P9, hs⟩ := bind_some hs
         refine pl_call Bd74 rfl (c_spec_l8Next (M := f4) s3674.2.2 (w64 (s2566.2.2 + 1)) z1 hO.fut P9) ?_
         rintro _ R6 ⟨s8, s9, t0, E8, rfl, k4, Q0, Q1⟩
         have h0 := h0.ext k4
         have a0 := a0.cn k4
         have z1 := z1.ext k4
         have z2 := z2.ext k4
         have z3 := z3.ext k4
         have hC := hC.ext k4
         have hO := Own.join0 hO k4 Q1
         have hO := hO.perm (R := E8 ++ (o3 ++ (([a1]) ++ ([])))) (by simp)
         refine pl_val (.tuple #[(.slice s8 s9 t0), (.bool r3714.2)]) (y_move rfl) ?_
         refine pl_val (.slice s8 s9 t0) (y_extract rfl (by kernel_rfl)) ?_
         refine pl_val (.bool r3714.2) (y_extract rfl (by kernel_rfl)) ?_
         refine pl_val (.slice s8 s9 t0) (y_assign rfl) ?_
         refine pl_val (.bool r3714.2) (y_assign rfl) ?_
         refine c_nil ?_
         cases hs
         have hO := hO.fr2
         have hO := hO.fr1
         have hO := hO.fr2
         exact ⟨_, f4, s0, s1, s2, s3, s4, s5, o3, s8, s9, t0, E8, fr_ovl 172 ⟨rfl, rfl, rfl, rfl, rfl, rfl, rfl, rfl, rfl, trivial⟩, hC, hO, hK, h0, a0, z2, z3, Q0⟩
        refine c_condF (congrArg Value.bool x9) ?_
        refine wp_exit ?_
        cases hs
        have hO := hO.fr2
        have hO := hO.fr2
        have hO := hO.fr2
        exact ⟨rfl, _, f0, f1, f2, f3, d4, d5, d6, j7, d7, d8, d9, o2, fr_ovl 172 ⟨rfl, rfl, rfl, rfl, rfl, rfl, rfl, trivial⟩, hC, hO, hK, h0, a0, a5, a4, e0⟩
       ·skip
        have hO := hO.fr2
        have hO := hO.fr1
        have hO := hO.fr2
        exact ⟨_, d3, m5, m6, m7, m8, m9, n0, n1, x4, x5, x6, N6, fr_ovl 172 ⟨rfl, rfl, rfl, rfl, rfl, rfl, rfl, rfl, rfl, trivial⟩, hC, hO, hK, h0, a0, j4, j5, x7⟩
       cases o3595 with
       | nx _ => exact True.intro
       | rt r_ =>
        have hs := after_rt hs
        intro b8 k5 hK
        cases hs
        exact hK
       | br s3591 =>
        have hs := after_br hs
        rintro b8 b3 ⟨σ, g8, r2, r3, r4, r5, r6, r7, r8, D6, D7, D8, x8, rfl, hC, hO, hK, h0, a0, Q2, Q3, R7⟩
        refine c_region ?_
        refine pl_val (.int .i64 k3334) (y_move rfl) ?_
        refine pl_val (.int .i64 (w64 (k3334 + 1))) (y_add rfl rfl) ?_
        refine pl_val (.int .i64 (w64 (k3334 + 1))) (y_assign rfl) ?_
        refine c_nil ?_
        cases hs
        have hO := hO.fr1
        have hO := hO.drop
        have hO := hO.fr1
        have hO := hO.fr1
        exact ⟨_, g8, r2, r3, r4, r5, r6, r7, r8, fr_ovl 172 ⟨rfl, rfl, rfl, rfl, rfl, rfl, congrArg (Value.int .i64) hw, trivial⟩, hC, hO, hK, h0, a0, Q2, Q3⟩
      ·skip
       have hO := hO.fr1
       have hO := hO.fr1
       exact ⟨_, g4, l9, m0, m1, g5, g6, g7, o1, fr_ovl 172 ⟨rfl, rfl, rfl, rfl, rfl, rfl, rfl, trivial⟩, hC, hO, hK, h0, a0, q4, m3⟩
      cases o3336 with
      | nx _ => exact True.intro
      | rt r_ =>
       have hs := after_rt hs
       intro b8 k5 hK
       cases hs
       exact hK
      | br s3332 =>
       have hs := after_br hs
       rintro b8 b4 ⟨σ, j3, q5, q6, q7, q8, q9, r0, r1, rfl, hC, hO, hK, h0, a0, Q4, Q5⟩
       refine c_region ?_
       refine pl_val (.int .i64 s2566.2.2) (y_move rfl) ?_
       refine pl_val (.int .i64 (w64 (s2566.2.2 + 1))) (y_add rfl rfl) ?_
       refine pl_val (.int .i64 (w64 (s2566.2.2 + 1))) (y_assign rfl) ?_
       refine c_nil ?_
       cases hs
       have hO := hO.fr1
       have hO := hO.fr1
       exact ⟨_, j3, q5, q6, q7, q8, q9, r0, r1, fr_ovl 172 ⟨rfl, rfl, rfl, rfl, rfl, rfl, trivial⟩, hC, hO, hK, h0, a0, Q4, Q5⟩
     refine c_condF (congrArg Value.bool w9) ?_
     refine wp_exit ?_
     cases hs
     have hO := hO.fr1
     have hO := hO.fr1
     exact ⟨rfl, _, g4, l9, m0, m1, g5, g6, g7, o1, fr_ovl 172 ⟨rfl, rfl, trivial⟩, hC, hO, hK, h0, a0, q4, m3⟩
    ·skip
     have hO := hO.fr1
     have hO := hO.fr1
     exact ⟨_, g3, p6, p7, p8, p9, q0, q1, q2, fr_ovl 172 ⟨rfl, rfl, rfl, rfl, rfl, rfl, trivial⟩, hC, hO, hK, h0, a0, M6, M7⟩
    cases o2570 with
    | nx _ => exact True.intro
    | rt r_ =>
     have hs := after_rt hs
     intro b8 k5 hK
     cases hs
     exact hK
    | br s2566 =>
     have hs := after_br hs
     rintro b8 b6 ⟨σ, m2, j0, j1, j2, C7, C8, C9, w8, rfl, hC, hO, hK, h0, a0, E9, R8⟩
     refine c_sr ?_
     refine pl_val (.slice j0 j1 j2) (y_move rfl) ?_
     refine pl_val (.slice j0 j1 j2) (y_move rfl) ?_
     refine pl_val (.int .i64 (s2566.1.length : Int)) (y_len' Sl25 (rs_len E9) rfl) ?_
     refine pl_val (.int .i64 r9) (y_move rfl) ?_
     refine pl_val (.bool (decide ((s2566.1.length : Int) ≤ r9))) (y_leq rfl rfl) ?_
     refine pl_val (.slice j0 j1 j2) (y_assign rfl) ?_
     refine pl_val (.bool (decide ((s2566.1.length : Int) ≤ r9))) (y_assign rfl) ?_
     refine c_nil ?_
     refine wp_ret ?_
     cases hs
     exact ⟨_, j0, j1, j2, fr_ovl 172 ⟨rfl, rfl, trivial⟩, hC, (Keeps.out hK E9)⟩

theorem Bd80 : Bodied Try.prog 80 := bodied Try.func80 (by kernel_rfl) rfl

theorem Bd82 : Bodied Try.prog 82 := bodied Try.func82 (by kernel_rfl) rfl

theorem Bd37 : Bodied Try.prog 37 := bodied Try.func37 (by kernel_rfl) rfl

def k_spec_l11Free (M : Nat → Prop) (w0 : World) (r : (List (List Int)) × Bool) (a : Act) (w : World) : Prop :=
  ∃ (σ : Nat → Value) (ra0 : Option Addr) (rn0 rc0 : Nat), a = fr 29 (ovl σ [(4, (.slice ra0 rn0 rc0)), (5, (.bool r.2))]) ∧ Chg [] w0 w ∧ (RT.rs (RT.rs (RT.int .i64))).val (Past M w0 w) w (.slice ra0 rn0 rc0) r.1 []
def s_spec_l11Free (a_ : Int × (List (Int × (List Int)))) (k : Int) : Option ((List (List Int)) × Bool) :=
  (s_spec_l11Rank (a_.1, a_.2) k).bind fun r4 =>
  (bif (!r4) then some ([], false) else (s_spec_l2Pow a_.1 k).bind fun r21 =>
  (s_spec_l11Gens (a_.1, a_.2) k).bind fun r23 =>
  (s_spec_l8Close (a_.1, a_.2) r21 r23).bind fun r27 =>
  (bif (!r27.2) then some ([], false) else some (r27.1, true)))
set_option maxHeartbeats 4000000 in
theorem c_spec_l11Free {M : Nat → Prop} {w : World} {pa0 : Option Addr} {pn0 pc0 : Nat} (a_ : Int × (List (Int × (List Int)))) (k : Int) (h0 : (RT.rs (RT.pr (RT.int .i64) (RT.rs (RT.int .i64)))).val M w (.slice pa0 pn0 pc0) a_.2 ([])) (hM : ∀ g, w.heap.size ≤ g → M g) {r : (List (List Int)) × Bool} (hs : s_spec_l11Free a_ k = some r) :
    Gives Try.prog 44 [(.agg #[(.int .i64 a_.1), (.slice pa0 pn0 pc0)]), (.int .i64 k)] w (fun v w' => ∃ (ra0 : Option Addr) (rn0 rc0 : Nat), v = (.tuple #[(.slice ra0 rn0 rc0), (.bool r.2)]) ∧ Chg [] w w' ∧ (RT.rs (RT.rs (RT.int .i64))).val (Past M w w') w' (.slice ra0 rn0 rc0) r.1 []) := by
 refine calls_fr Try.func44 rfl Try.ntmps44 (Nat.le_of_ble_eq_true rfl) ?_
 have hO := Own.start (N := Nw w []) hM Nw.fut
 have hC := Chg.refl [] w
 unfold s_spec_l11Free at hs
 refine wp_mono (Q := KPost (k_spec_l11Free M w r)) ?_ (fun e a f7 h => ?_)
 rotate_left
 ·cases e
  case ret =>
   obtain ⟨σ, ra0, rn0, rc0, rfl, hrest⟩ := h
   exact ret2x Try.results44 (res_tmp rfl) (res_tmp rfl) ⟨ra0, rn0, rc0, rfl, hrest⟩
  all_goals exact (h : False).elim
 refine c_sr ?_
 obtain ⟨d5, b8, d6, c5, b9, a0⟩ := new_block w [(.int .i64 a_.1), (.slice pa0 pn0 pc0)] 35
 refine pl_val (w' := d5) (.pointer (some ⟨b8, 0, none⟩)) (y_box rfl (by rw [d6, c5]; kernel_rfl)) ?_
 have h0 := h0.ext b9
 have hC := hC.ext b9
 have hO := hO.new1 b9 c5 a0.lt
 refine pl_val (.slice none 0 0) (y_assign rfl) ?_
 refine pl_val (.bool false) (y_assign rfl) ?_
 refine c_nil ?_
 refine c_seq ?_
 refine c_sr ?_
 refine pl_val (.agg #[(.int .i64 a_.1), (.slice pa0 pn0 pc0)]) (y_load rfl ((box_load Ag35 Sz35 a0 [] [(.int .i64 a_.1), (.slice pa0 pn0 pc0)] [] rfl rfl (fun h => nomatch h)) _ (Chg.refl _ _))) ?_
 refine pl_val (.int .i64 k) (y_move rfl) ?_
 obtain ⟨r4, d7, hs⟩ := bind_some hs
 refine pl_call Bd80 rfl (c_spec_l11Rank (M := M) (a_.1, a_.2) k h0 hO.fut d7) ?_
 rintro _ c0 ⟨rfl, b5⟩
 have h0 := h0.ext b5
 have a0 := a0.cn b5
 have hC := hC.ext b5
 have hO := hO.ext b5
 refine pl_val (.bool (!r4)) (y_not rfl) ?_
 refine c_nil ?_
 rcases bif_some hs with ⟨c1, hs⟩ | ⟨c1, hs⟩
 ·refine c_condT (congrArg Value.bool c1) ?_
  refine c_sr ?_
  obtain ⟨c6, a8, d8, c7, b6, c8⟩ := new_block c0 [] 43
  refine pl_val (w' := c6) (.slice (some ⟨a8, 0, none⟩) 0 0) (y_bslice rfl (by rw [d8, c7]; kernel_rfl)) ?_
  have h0 := h0.ext b6
  have a0 := a0.cn b6
  have hC := hC.ext b6
  have hO := hO.new1 b6 c7 c8.lt
  have c2 := os_of_box (r := (RT.os 3 (RT.int .i64))) (M := M) (css := []) (fps := []) (xs := ([] : List (List Int))) c8 trivial (Nat.zero_le _) (List.nodup_cons.2 ⟨(fun h => nomatch h), List.nodup_nil⟩)
  have c2 : (RT.os 43 (RT.os 3 (RT.int .i64))).val M c6 (.slice (some ⟨a8, 0, none⟩) 0 0) [] [a8] := c2
  refine pl_val (.slice (some ⟨a8, 0, none⟩) 0 0) (y_assign rfl) ?_
  refine pl_val (.bool false) (y_assign rfl) ?_
  refine c_nil ?_
  refine wp_ret ?_
  cases hs
  obtain ⟨d9, f8, e0, e1, hO, e2⟩ := frz_own (Frz.os (Frz.os Frz.int)) c2 hO
  have h0 := h0.sub (M' := d9) e0
  have hK := e1
  exact ⟨_, (some ⟨a8, 0, none⟩), 0, 0, fr_ovl 29 ⟨rfl, rfl, trivial⟩, hC, (Keeps.out hK e2)⟩
 refine c_condF (congrArg Value.bool c1) ?_
 refine wp_skip ?_
 refine c_seq ?_
 refine x_start [8] Mx rfl ?_
 have a9 := Chg.drew c0
 generalize World.drew c0 = e3 at a9 ⊢
 have h0 := h0.ext a9
 have a0 := a0.cn a9
 have hC := hC.ext a9
 have hO := hO.ext a9
 have hS := Chg.refl [] e3
 refine x_l 0 (.agg #[(.int .i64 a_.1), (.slice pa0 pn0 pc0)]) rfl (by kernel_rfl)  (fun w' hw' => y_load rfl ((box_load Ag35 Sz35 a0 [] [(.int .i64 a_.1), (.slice pa0 pn0 pc0)] [] rfl rfl (fun h => nomatch h)) w' hw')) hS ?_
 refine x_p 1 (.pointer (some ⟨b8, 0, none⟩)) rfl (by kernel_rfl)  (fun _ => y_faddr rfl Fa35x0) (fun _ => hS) ?_
 refine x_l 2 (.int .i64 a_.1) rfl (by kernel_rfl)  (fun w' hw' => y_load rfl ((box_load Ag3 Sz3 a0 [] [(.int .i64 a_.1)] [(.slice pa0 pn0 pc0)] rfl rfl (fun _ => rfl)) w' hw')) hS ?_
 refine x_p 3 (.int .i64 k) rfl (by kernel_rfl)  (fun _ => y_move rfl) (fun _ => hS) ?_
 refine x_l 5 (.agg #[(.int .i64 a_.1), (.slice pa0 pn0 pc0)]) rfl (by kernel_rfl)  (fun w' hw' => y_load rfl ((box_load Ag35 Sz35 a0 [] [(.int .i64 a_.1), (.slice pa0 pn0 pc0)] [] rfl rfl (fun h => nomatch h)) w' hw')) hS ?_
 refine x_p 6 (.int .i64 k) rfl (by kernel_rfl)  (fun _ => y_move rfl) (fun _ => hS) ?_
 refine x_one (i := 4) (by kernel_rfl) ?_
 obtain ⟨r21, e4, hs⟩ := bind_some hs
 refine xk_call (b := false) rfl  Bd81 rfl (c_spec_l2Pow (M := M) a_.1 k  hO.fut e4) rfl (by rintro _ _ _ ⟨rfl, a2⟩; exact hS.ext a2) ?_
 rintro _ f9 ⟨rfl, a2⟩
 have h0 := h0.ext a2
 have a0 := a0.cn a2
 have hC := hC.ext a2
 have hO := hO.ext a2
 have hS := hS.ext a2
 refine x_one (i := 7) (by kernel_rfl) ?_
 obtain ⟨r23, e5, hs⟩ := bind_some hs
 refine xk_call (b := false) rfl  Bd82 rfl (c_spec_l11Gens (M := M) (a_.1, a_.2) k h0 hO.fut e5) rfl (by rintro _ _ _ ⟨e6, e7, e8, c9, rfl, a3, d0, d1⟩; exact hS.ext a3) ?_
 rintro _ b0 ⟨e6, e7, e8, c9, rfl, a3, d0, d1⟩
 have h0 := h0.ext a3
 have a0 := a0.cn a3
 have hC := hC.ext a3
 have hO := Own.join0 hO a3 d1
 have hO := hO.perm (R := c9 ++ (([b8]) ++ ([]))) (by simp)
 have hS := hS.ext a3
 refine x_one (i := 8) (by kernel_rfl) ?_
 obtain ⟨a1, g0, e9, f0, hO, b1⟩ := frz_own (Frz.os (Frz.os Frz.int)) d0 hO
 have h0 := h0.sub (M' := a1) e9
 have hK := f0
 obtain ⟨r27, f1, hs⟩ := bind_some hs
 refine xk_call (b := true) rfl  Bd37 rfl (c_spec_l8Close (M := a1) (a_.1, a_.2) r21 r23 h0 b1 hO.fut f1) rfl (fun h => nomatch h) ?_
 rintro _ a4 ⟨a5, a6, a7, rfl, b2, b3⟩
 have hK := hK.trans (show Keeps w a1 (Past a1 b0 a4) from Keeps.past hC.size)
 have h0 := h0.ext b2
 have a0 := a0.cn b2
 have b1 := b1.ext b2
 have hC := hC.ext b2
 have hO := hO.past b2
 have h0 := h0.sub (M' := (Past a1 b0 a4)) (fun g hg => .inl hg.1)
 have b1 := b1.sub (M' := (Past a1 b0 a4)) (fun g hg => .inl hg.1)
 refine x_p 9 (.tuple #[(.slice a5 a6 a7), (.bool r27.2)]) rfl (by kernel_rfl)  (fun _ => y_move rfl) (fun h => nomatch h) ?_
 refine x_p 10 (.slice a5 a6 a7) rfl (by kernel_rfl)  (fun _ => y_extract rfl (by kernel_rfl)) (fun h => nomatch h) ?_
 refine x_p 11 (.bool r27.2) rfl (by kernel_rfl)  (fun _ => y_extract rfl (by kernel_rfl)) (fun h => nomatch h) ?_
 refine x_p 12 (.slice a5 a6 a7) rfl (by kernel_rfl)  (fun _ => y_assign rfl) (fun h => nomatch h) ?_
 refine x_p 13 (.bool r27.2) rfl (by kernel_rfl)  (fun _ => y_assign rfl) (fun h => nomatch h) ?_
 refine x_end (by kernel_rfl) ?_
 clear hS
 refine c_seq ?_
 refine c_sr ?_
 refine pl_val (.bool r27.2) (y_move rfl) ?_
 refine pl_val (.bool (!r27.2)) (y_not rfl) ?_
 refine c_nil ?_
 rcases bif_some hs with ⟨c3, hs⟩ | ⟨c3, hs⟩
 ·refine c_condT (congrArg Value.bool c3) ?_
  refine c_sr ?_
  obtain ⟨d2, b4, f2, d3, b7, d4⟩ := new_block a4 [] 43
  refine pl_val (w' := d2) (.slice (some ⟨b4, 0, none⟩) 0 0) (y_bslice rfl (by rw [f2, d3]; kernel_rfl)) ?_
  have a0 := a0.cn b7
  have b3 := b3.ext b7
  have hC := hC.ext b7
  have hO := hO.new1 b7 d3 d4.lt
  have c4 := os_of_box (r := (RT.os 3 (RT.int .i64))) (M := (Past a1 b0 a4)) (css := []) (fps := []) (xs := ([] : List (List Int))) d4 trivial (Nat.zero_le _) (List.nodup_cons.2 ⟨(fun h => nomatch h), List.nodup_nil⟩)
  have c4 : (RT.os 43 (RT.os 3 (RT.int .i64))).val (Past a1 b0 a4) d2 (.slice (some ⟨b4, 0, none⟩) 0 0) [] [b4] := c4
  refine pl_val (.slice (some ⟨b4, 0, none⟩) 0 0) (y_assign rfl) ?_
  refine pl_val (.bool false) (y_assign rfl) ?_
  refine c_nil ?_
  refine wp_ret ?_
  cases hs
  obtain ⟨f3, g1, f4, f5, hO, f6⟩ := frz_own (Frz.os (Frz.os Frz.int)) c4 hO
  have b3 := b3.sub (M' := f3) f4
  have hK := hK.trans f5
  exact ⟨_, (some ⟨b4, 0, none⟩), 0, 0, fr_ovl 29 ⟨rfl, rfl, trivial⟩, hC, (Keeps.out hK f6)⟩
 refine c_condF (congrArg Value.bool c3) ?_
 refine wp_skip ?_
 refine c_sr ?_
 refine pl_val (.slice a5 a6 a7) (y_move rfl) ?_
 refine pl_val (.slice a5 a6 a7) (y_assign rfl) ?_
 refine pl_val (.bool true) (y_assign rfl) ?_
 refine c_nil ?_
 refine wp_ret ?_
 cases hs
 exact ⟨_, a5, a6, a7, fr_ovl 29 ⟨rfl, rfl, trivial⟩, hC, (Keeps.out hK b3)⟩

def k_spec_l3End (M : Nat → Prop) (w0 : World) (r : Int) (a : Act) (w : World) : Prop :=
  ∃ (σ : Nat → Value) , a = fr 54 (ovl σ [(6, (.int .i64 r))]) ∧ Chg [] w0 w
def s_spec_l3End (a_ : Int × (List (Int × (List Int)))) (t : List Int) (at_ : Int) : Option (Int) :=
  (forC (S := Int) (R := Int) (fun k37 s35 =>
  (idx t k37).bind fun x41 =>
  (bif (decide (x41 < 0)) then (idx t k37).bind fun x50 =>
  (s_spec_l1In x50 (w64 (-(a_.2.length : Int))) (-1)).bind fun r53 =>
  (bif (!r53) then some (.rt (-1)) else (idx t k37).bind fun x62 =>
  (idx a_.2 (w64 ((-1) - x62))).bind fun x64 =>
  (bif ((w64 ((w64 (s35 - 1)) + x64.1)) == 0) then some (.rt (w64 (k37 + 1))) else some (.nx (w64 ((w64 (s35 - 1)) + x64.1))))) else (idx t k37).bind fun x68 =>
  (bif (decide (6 ≤ x68)) then some (.rt (-1)) else (bif ((w64 (s35 - 1)) == 0) then some (.rt (w64 (k37 + 1))) else some (.nx (w64 (s35 - 1))))))) at_ (t.length : Int) 1).bind fun o39 => after o39 (fun r_ => some r_) (fun s35 =>
  some (-1))
set_option maxHeartbeats 4000000 in
theorem c_spec_l3End {M : Nat → Prop} {w : World} {pa0 : Option Addr} {pn0 pc0 : Nat} {pa1 : Option Addr} {pn1 pc1 : Nat} (a_ : Int × (List (Int × (List Int)))) (t : List Int) (at_ : Int) (h0 : (RT.rs (RT.pr (RT.int .i64) (RT.rs (RT.int .i64)))).val M w (.slice pa0 pn0 pc0) a_.2 ([])) (h1 : (RT.rs (RT.int .i64)).val M w (.slice pa1 pn1 pc1) t ([])) (hM : ∀ g, w.heap.size ≤ g → M g) {r : Int} (hs : s_spec_l3End a_ t at_ = some r) :
    Gives Try.prog 108 [(.agg #[(.int .i64 a_.1), (.slice pa0 pn0 pc0)]), (.slice pa1 pn1 pc1), (.int .i64 at_)] w (fun v w' => v = (.int .i64 r) ∧ Chg [] w w') := by
 refine calls_fr Try.func108 rfl Try.ntmps108 (Nat.le_of_ble_eq_true rfl) ?_
 have hO := Own.start (N := Nw w []) hM Nw.fut
 have hC := Chg.refl [] w
 unfold s_spec_l3End at hs
 refine wp_mono (Q := KPost (k_spec_l3End M w r)) ?_ (fun e a b7 h => ?_)
 rotate_left
 ·cases e
  case ret =>
   obtain ⟨σ, rfl, hrest⟩ := h
   exact ret1x Try.results108 (res_tmp rfl) ⟨rfl, hrest⟩
  all_goals exact (h : False).elim
 refine c_sr ?_
 obtain ⟨b8, a3, b9, b3, a7, a0⟩ := new_block w [(.int .i64 a_.1), (.slice pa0 pn0 pc0)] 35
 refine pl_val (w' := b8) (.pointer (some ⟨a3, 0, none⟩)) (y_box rfl (by rw [b9, b3]; kernel_rfl)) ?_
 have h0 := h0.ext a7
 have h1 := h1.ext a7
 have hC := hC.ext a7
 have hO := hO.new1 a7 b3 a0.lt
 refine pl_val (.int .i64 0) (y_assign rfl) ?_
 refine c_nil ?_
 refine c_sr ?_
 refine pl_val (.int .i64 1) (y_assign rfl) ?_
 refine c_nil ?_
 refine c_seq ?_
 refine c_sr ?_
 refine pl_val (.int .i64 at_) (y_move rfl) ?_
 refine pl_val (.int .i64 at_) (y_assign rfl) ?_
 refine c_nil ?_
 obtain ⟨o39, c0, hs⟩ := bind_some hs
 refine wp_block ?_
 refine wp_forC (id := 0) (t.length : Int) (I := fun k37 s35 a a1 => ∃ (σ : Nat → Value), a = fr 54 (ovl σ [(1, (.slice pa1 pn1 pc1)), (3, (.pointer (some ⟨a3, 0, none⟩))), (7, (.int .i64 s35)), (8, (.int .i64 k37))]) ∧ Chg [] w a1 ∧ Own (Nw w []) M a1 (([a3]) ++ []) ∧ (RT.rs (RT.pr (RT.int .i64) (RT.rs (RT.int .i64)))).val M a1 (.slice pa0 pn0 pc0) a_.2 ([]) ∧ (RT.rs (RT.int .i64)).val M a1 (.slice pa1 pn1 pc1) t ([]) ∧ BoxV a1 a3 35 [(.int .i64 a_.1), (.slice pa0 pn0 pc0)]) (J := fun s35 a a1 => ∃ (σ : Nat → Value), a = fr 54 (ovl σ []) ∧ Chg [] w a1 ∧ Own (Nw w []) M a1 (([a3]) ++ []) ∧ (RT.rs (RT.pr (RT.int .i64) (RT.rs (RT.int .i64)))).val M a1 (.slice pa0 pn0 pc0) a_.2 ([]) ∧ (RT.rs (RT.int .i64)).val M a1 (.slice pa1 pn1 pc1) t ([]) ∧ BoxV a1 a3 35 [(.int .i64 a_.1), (.slice pa0 pn0 pc0)]) (K := (k_spec_l3End M w)) ?_ ?_ at_ 1 o39 _ _ ?_ c0 ?_
 ·rintro k37 s35 a a1 ⟨σ, rfl, hC, hO, h0, h1, a0⟩ hlt
  refine c_seq ?_
  refine c_sr ?_
  refine pl_val (.int .i64 k37) (y_move rfl) ?_
  refine pl_val (.slice pa1 pn1 pc1) (y_move rfl) ?_
  refine pl_val (.int .i64 (t.length : Int)) (y_len' Sl43 (rs_len h1) rfl) ?_
  refine pl_val (.bool (decide (k37 < (t.length : Int)))) (y_lss rfl rfl) ?_
  refine c_nil ?_
  refine c_condF (congrArg Value.bool (decide_eq_false hlt)) ?_
  refine wp_exit ?_
  exact ⟨rfl, _, fr_ovl 54 trivial, hC, hO, h0, h1, a0⟩
 ·rintro k37 s35 o39 a a1 ⟨σ, rfl, hC, hO, h0, h1, a0⟩ hlt hw hs
  refine c_seq ?_
  refine c_sr ?_
  refine pl_val (.int .i64 k37) (y_move rfl) ?_
  refine pl_val (.slice pa1 pn1 pc1) (y_move rfl) ?_
  refine pl_val (.int .i64 (t.length : Int)) (y_len' Sl43 (rs_len h1) rfl) ?_
  refine pl_val (.bool (decide (k37 < (t.length : Int)))) (y_lss rfl rfl) ?_
  refine c_nil ?_
  refine c_condT (congrArg Value.bool (decide_eq_true hlt)) ?_
  refine wp_skip ?_
  refine c_seq ?_
  refine wp_block ?_
  refine c_sr ?_
  refine pl_val (.int .i64 s35) (y_move rfl) ?_
  refine pl_val (.int .i64 (w64 (s35 - 1))) (y_sub rfl rfl) ?_
  refine pl_val (.int .i64 (w64 (s35 - 1))) (y_assign rfl) ?_
  refine c_nil ?_
  refine c_seq ?_
  refine c_sr ?_
  refine pl_val (.slice pa1 pn1 pc1) (y_move rfl) ?_
  refine pl_val (.int .i64 k37) (y_move rfl) ?_
  obtain ⟨x41, c1, hs⟩ := bind_some hs
  obtain ⟨c2, c3, c4, c5⟩ := rs_idx Sl43 Sz3 h1 c1
  refine pl_val (.pointer (some ⟨c2, c3, none⟩)) (c4 _ _ _ _ _ _ _ _ _ rfl rfl) ?_
  refine pl_val (.int .i64 x41) (y_load rfl ((at_load_int Ag3 Sz3 c5) _ (Chg.refl _ _))) ?_
  refine pl_val (.bool (decide (x41 < 0))) (y_lss rfl rfl) ?_
  refine c_nil ?_
  rcases bif_some hs with ⟨a8, hs⟩ | ⟨a8, hs⟩
  ·refine c_condT (congrArg Value.bool a8) ?_
   refine c_seq ?_
   refine c_seq ?_
   refine x_start [] Mx rfl ?_
   have a5 := Chg.drew a1
   generalize World.drew a1 = c6 at a5 ⊢
   have h0 := h0.ext a5
   have h1 := h1.ext a5
   have a0 := a0.cn a5
   have hC := hC.ext a5
   have hO := hO.ext a5
   have hS := Chg.refl [] c6
   refine x_p 0 (.slice pa1 pn1 pc1) rfl (by kernel_rfl)  (fun _ => y_move rfl) (fun _ => hS) ?_
   refine x_p 1 (.int .i64 k37) rfl (by kernel_rfl)  (fun _ => y_move rfl) (fun _ => hS) ?_
   obtain ⟨x50, c7, hs⟩ := bind_some hs
   obtain ⟨c8, c9, d0, a6⟩ := rs_idx Sl43 Sz3 h1 c7
   refine x_p 2 (.pointer (some ⟨c8, c9, none⟩)) rfl (by kernel_rfl)  (fun _ => d0 _ _ _ _ _ _ _ _ _ rfl rfl) (fun _ => hS) ?_
   refine x_l 3 (.int .i64 x50) rfl (by kernel_rfl)  (fun w' hw' => y_load rfl ((at_load_int Ag3 Sz3 a6) w' hw')) hS ?_
   refine x_p 4 (.pointer (some ⟨a3, 1, none⟩)) rfl (by kernel_rfl)  (fun _ => y_faddr rfl Fa35x1) (fun _ => hS) ?_
   refine x_l 5 (.slice pa0 pn0 pc0) rfl (by kernel_rfl)  (fun w' hw' => y_load rfl ((box_load Ag33 Sz33 a0 [(.int .i64 a_.1)] [(.slice pa0 pn0 pc0)] [] rfl rfl (fun _ => rfl)) w' hw')) hS ?_
   refine x_p 6 (.int .i64 (a_.2.length : Int)) rfl (by kernel_rfl)  (fun _ => y_len' Sl33 (rs_len h0) rfl) (fun _ => hS) ?_
   refine x_p 7 (.int .i64 (w64 (-(a_.2.length : Int)))) rfl (by kernel_rfl)  (fun _ => y_neg rfl) (fun _ => hS) ?_
   refine x_one (i := 8) (by kernel_rfl) ?_
   obtain ⟨r53, d1, hs⟩ := bind_some hs
   refine xk_call (b := false) rfl  Bd65 rfl (c_spec_l1In (M := M) x50 (w64 (-(a_.2.length : Int))) (-1)  hO.fut d1) rfl (by rintro _ _ _ ⟨rfl, a2⟩; exact hS.ext a2) ?_
   rintro _ b4 ⟨rfl, a2⟩
   have h0 := h0.ext a2
   have h1 := h1.ext a2
   have a0 := a0.cn a2
   have a6 := at_ext a6 a2
   have hC := hC.ext a2
   have hO := hO.ext a2
   have hS := hS.ext a2
   refine x_p 9 (.bool (!r53)) rfl (by kernel_rfl)  (fun _ => y_not rfl) (fun _ => hS) ?_
   refine x_end (by kernel_rfl) ?_
   clear hS
   rcases bif_some hs with ⟨a9, hs⟩ | ⟨a9, hs⟩
   ·refine c_condT (congrArg Value.bool a9) ?_
    refine c_sr ?_
    refine pl_val (.int .i64 (-1)) (y_assign rfl) ?_
    refine c_nil ?_
    refine wp_ret ?_
    cases hs
    exact ⟨_, fr_ovl 54 ⟨rfl, trivial⟩, hC⟩
   refine c_condF (congrArg Value.bool a9) ?_
   refine wp_skip ?_
   refine x_start [] Mx rfl ?_
   have a4 := Chg.drew b4
   generalize World.drew b4 = d2 at a4 ⊢
   have h0 := h0.ext a4
   have h1 := h1.ext a4
   have a0 := a0.cn a4
   have a6 := at_ext a6 a4
   have hC := hC.ext a4
   have hO := hO.ext a4
   have hS := Chg.refl [] d2
   refine x_p 0 (.int .i64 (w64 (s35 - 1))) rfl (by kernel_rfl)  (fun _ => y_move rfl) (fun _ => hS) ?_
   refine x_p 1 (.pointer (some ⟨a3, 1, none⟩)) rfl (by kernel_rfl)  (fun _ => y_faddr rfl Fa35x1) (fun _ => hS) ?_
   refine x_l 2 (.slice pa0 pn0 pc0) rfl (by kernel_rfl)  (fun w' hw' => y_load rfl ((box_load Ag33 Sz33 a0 [(.int .i64 a_.1)] [(.slice pa0 pn0 pc0)] [] rfl rfl (fun _ => rfl)) w' hw')) hS ?_
   refine x_p 3 (.slice pa1 pn1 pc1) rfl (by kernel_rfl)  (fun _ => y_move rfl) (fun _ => hS) ?_
   refine x_p 4 (.int .i64 k37) rfl (by kernel_rfl)  (fun _ => y_move rfl) (fun _ => hS) ?_
   obtain ⟨x62, d3, hs⟩ := bind_some hs
   obtain ⟨d4, d5, d6, d7⟩ := rs_idx Sl43 Sz3 h1 d3
   refine x_p 5 (.pointer (some ⟨d4, d5, none⟩)) rfl (by kernel_rfl)  (fun _ => d6 _ _ _ _ _ _ _ _ _ rfl rfl) (fun _ => hS) ?_
   refine x_l 6 (.int .i64 x62) rfl (by kernel_rfl)  (fun w' hw' => y_load rfl ((at_load_int Ag3 Sz3 d7) w' hw')) hS ?_
   refine x_p 7 (.int .i64 (w64 ((-1) - x62))) rfl (by kernel_rfl)  (fun _ => y_sub rfl rfl) (fun _ => hS) ?_
   obtain ⟨x64, d8, hs⟩ := bind_some hs
   obtain ⟨b5, b6, d9, e0⟩ := rs_idx Sl33 Sz89 h0 d8
   refine x_p 8 (.pointer (some ⟨b5, b6, none⟩)) rfl (by kernel_rfl)  (fun _ => d9 _ _ _ _ _ _ _ _ _ rfl rfl) (fun _ => hS) ?_
   obtain ⟨e1, _⟩ := pr_at e0
   refine x_p 9 (.pointer (some ⟨b5, b6 + 0, none⟩)) rfl (by kernel_rfl)  (fun _ => y_faddr rfl Fa89x0) (fun _ => hS) ?_
   refine x_l 10 (.int .i64 x64.1) rfl (by kernel_rfl)  (fun w' hw' => y_load rfl ((at_load_int Ag3 Sz3 e1) w' hw')) hS ?_
   refine x_p 11 (.int .i64 (w64 ((w64 (s35 - 1)) + x64.1))) rfl (by kernel_rfl)  (fun _ => y_add rfl rfl) (fun _ => hS) ?_
   refine x_p 12 (.int .i64 (w64 ((w64 (s35 - 1)) + x64.1))) rfl (by kernel_rfl)  (fun _ => y_assign rfl) (fun _ => hS) ?_
   refine x_end (by kernel_rfl) ?_
   clear hS
   refine c_sr ?_
   refine pl_val (.int .i64 (w64 ((w64 (s35 - 1)) + x64.1))) (y_move rfl) ?_
   refine pl_val (.bool ((w64 ((w64 (s35 - 1)) + x64.1)) == 0)) (y_eql rfl rfl) ?_
   refine c_nil ?_
   rcases bif_some hs with ⟨b0, hs⟩ | ⟨b0, hs⟩
   ·refine c_condT (congrArg Value.bool b0) ?_
    refine c_sr ?_
    refine pl_val (.int .i64 k37) (y_move rfl) ?_
    refine pl_val (.int .i64 (w64 (k37 + 1))) (y_add rfl rfl) ?_
    refine pl_val (.int .i64 (w64 (k37 + 1))) (y_assign rfl) ?_
    refine c_nil ?_
    refine wp_ret ?_
    cases hs
    exact ⟨_, fr_ovl 54 ⟨rfl, trivial⟩, hC⟩
   refine c_condF (congrArg Value.bool b0) ?_
   refine wp_skip ?_
   refine c_region ?_
   refine pl_val (.int .i64 k37) (y_move rfl) ?_
   refine pl_val (.int .i64 (w64 (k37 + 1))) (y_add rfl rfl) ?_
   refine pl_val (.int .i64 (w64 (k37 + 1))) (y_assign rfl) ?_
   refine c_nil ?_
   cases hs
   exact ⟨_, fr_ovl 54 ⟨rfl, rfl, rfl, congrArg (Value.int .i64) hw, trivial⟩, hC, hO, h0, h1, a0⟩
  refine c_condF (congrArg Value.bool a8) ?_
  refine c_sr ?_
  refine pl_val (.slice pa1 pn1 pc1) (y_move rfl) ?_
  refine pl_val (.int .i64 k37) (y_move rfl) ?_
  obtain ⟨x68, e2, hs⟩ := bind_some hs
  obtain ⟨e3, e4, e5, e6⟩ := rs_idx Sl43 Sz3 h1 e2
  refine pl_val (.pointer (some ⟨e3, e4, none⟩)) (e5 _ _ _ _ _ _ _ _ _ rfl rfl) ?_
  refine pl_val (.int .i64 x68) (y_load rfl ((at_load_int Ag3 Sz3 e6) _ (Chg.refl _ _))) ?_
  refine pl_val (.bool (decide (6 ≤ x68))) (y_geq rfl rfl) ?_
  refine c_nil ?_
  rcases bif_some hs with ⟨b1, hs⟩ | ⟨b1, hs⟩
  ·refine c_condT (congrArg Value.bool b1) ?_
   refine c_sr ?_
   refine pl_val (.int .i64 (-1)) (y_assign rfl) ?_
   refine c_nil ?_
   refine wp_ret ?_
   cases hs
   exact ⟨_, fr_ovl 54 ⟨rfl, trivial⟩, hC⟩
  refine c_condF (congrArg Value.bool b1) ?_
  refine wp_skip ?_
  refine c_sr ?_
  refine pl_val (.int .i64 (w64 (s35 - 1))) (y_move rfl) ?_
  refine pl_val (.bool ((w64 (s35 - 1)) == 0)) (y_eql rfl rfl) ?_
  refine c_nil ?_
  rcases bif_some hs with ⟨b2, hs⟩ | ⟨b2, hs⟩
  ·refine c_condT (congrArg Value.bool b2) ?_
   refine c_sr ?_
   refine pl_val (.int .i64 k37) (y_move rfl) ?_
   refine pl_val (.int .i64 (w64 (k37 + 1))) (y_add rfl rfl) ?_
   refine pl_val (.int .i64 (w64 (k37 + 1))) (y_assign rfl) ?_
   refine c_nil ?_
   refine wp_ret ?_
   cases hs
   exact ⟨_, fr_ovl 54 ⟨rfl, trivial⟩, hC⟩
  refine c_condF (congrArg Value.bool b2) ?_
  refine wp_skip ?_
  refine c_region ?_
  refine pl_val (.int .i64 k37) (y_move rfl) ?_
  refine pl_val (.int .i64 (w64 (k37 + 1))) (y_add rfl rfl) ?_
  refine pl_val (.int .i64 (w64 (k37 + 1))) (y_assign rfl) ?_
  refine c_nil ?_
  cases hs
  exact ⟨_, fr_ovl 54 ⟨rfl, rfl, rfl, congrArg (Value.int .i64) hw, trivial⟩, hC, hO, h0, h1, a0⟩
 ·skip
  exact ⟨_, fr_ovl 54 ⟨rfl, rfl, rfl, rfl, trivial⟩, hC, hO, h0, h1, a0⟩
 cases o39 with
 | nx _ => exact True.intro
 | rt r_ =>
  have hs := after_rt hs
  intro e7 b7 hK
  cases hs
  exact hK
 | br s35 =>
  have hs := after_br hs
  rintro e7 a1 ⟨σ, rfl, hC, hO, h0, h1, a0⟩
  refine c_sr ?_
  refine pl_val (.int .i64 (-1)) (y_assign rfl) ?_
  refine c_nil ?_
  refine wp_ret ?_
  cases hs
  exact ⟨_, fr_ovl 54 ⟨rfl, trivial⟩, hC⟩

theorem Bd108 : Bodied Try.prog 108 := bodied Try.func108 (by kernel_rfl) rfl

def k_spec_l3Good (M : Nat → Prop) (w0 : World) (r : Bool) (a : Act) (w : World) : Prop :=
  ∃ (σ : Nat → Value) , a = fr 21 (ovl σ [(4, (.bool r))]) ∧ Chg [] w0 w
def s_spec_l3Good (a_ : Int × (List (Int × (List Int)))) (t : List Int) : Option (Bool) :=
  (bif (decide (0 < (t.length : Int))) then (bif (decide ((t.length : Int) ≤ 60)) then (s_spec_l3End (a_.1, a_.2) t 0).bind fun r7 =>
  some (r7 == (t.length : Int)) else some false) else some false)
set_option maxHeartbeats 4000000 in
theorem c_spec_l3Good {M : Nat → Prop} {w : World} {pa0 : Option Addr} {pn0 pc0 : Nat} {pa1 : Option Addr} {pn1 pc1 : Nat} (a_ : Int × (List (Int × (List Int)))) (t : List Int) (h0 : (RT.rs (RT.pr (RT.int .i64) (RT.rs (RT.int .i64)))).val M w (.slice pa0 pn0 pc0) a_.2 ([])) (h1 : (RT.rs (RT.int .i64)).val M w (.slice pa1 pn1 pc1) t ([])) (hM : ∀ g, w.heap.size ≤ g → M g) {r : Bool} (hs : s_spec_l3Good a_ t = some r) :
    Gives Try.prog 83 [(.agg #[(.int .i64 a_.1), (.slice pa0 pn0 pc0)]), (.slice pa1 pn1 pc1)] w (fun v w' => v = (.bool r) ∧ Chg [] w w') := by
 refine calls_fr Try.func83 rfl Try.ntmps83 (Nat.le_of_ble_eq_true rfl) ?_
 have hO := Own.start (N := Nw w []) hM Nw.fut
 have hC := Chg.refl [] w
 unfold s_spec_l3Good at hs
 refine wp_mono (Q := KPost (k_spec_l3Good M w r)) ?_ (fun e a b0 h => ?_)
 rotate_left
 ·cases e
  case ret =>
   obtain ⟨σ, rfl, hrest⟩ := h
   exact ret1x Try.results83 (res_tmp rfl) ⟨rfl, hrest⟩
  all_goals exact (h : False).elim
 refine c_sr ?_
 obtain ⟨a6, a7, a8, a5, a3, a4⟩ := new_block w [(.int .i64 a_.1), (.slice pa0 pn0 pc0)] 35
 refine pl_val (w' := a6) (.pointer (some ⟨a7, 0, none⟩)) (y_box rfl (by rw [a8, a5]; kernel_rfl)) ?_
 have h0 := h0.ext a3
 have h1 := h1.ext a3
 have hC := hC.ext a3
 have hO := hO.new1 a3 a5 a4.lt
 refine pl_val (.bool false) (y_assign rfl) ?_
 refine c_nil ?_
 refine c_sr ?_
 refine pl_val (.slice pa1 pn1 pc1) (y_move rfl) ?_
 refine pl_val (.int .i64 (t.length : Int)) (y_len' Sl43 (rs_len h1) rfl) ?_
 refine pl_val (.bool (decide (0 < (t.length : Int)))) (y_gtr rfl rfl) ?_
 refine pl_val (.bool (decide (0 < (t.length : Int)))) (y_move rfl) ?_
 rcases bif_some hs with ⟨a1, hs⟩ | ⟨a1, hs⟩
 ·skip
  refine pl_yes (.slice pa1 pn1 pc1) (tg := 8) (by kernel_rfl) (congrArg Value.bool a1) (y_move rfl) ?_
  refine pl_yes (.int .i64 (t.length : Int)) (tg := 8) (by kernel_rfl) (congrArg Value.bool a1) (y_len' Sl43 (rs_len h1) rfl) ?_
  refine pl_yes (.bool (decide ((t.length : Int) ≤ 60))) (tg := 8) (by kernel_rfl) (congrArg Value.bool a1) (y_leq rfl rfl) ?_
  refine pl_val (.bool (decide ((t.length : Int) ≤ 60))) (y_pick_t (congrArg Value.bool a1) rfl) ?_
  refine pl_val (.bool (decide ((t.length : Int) ≤ 60))) (y_move rfl) ?_
  rcases bif_some hs with ⟨a0, hs⟩ | ⟨a0, hs⟩
  ·skip
   refine pl_yes (.agg #[(.int .i64 a_.1), (.slice pa0 pn0 pc0)]) (tg := 13) (by kernel_rfl) (congrArg Value.bool a0) (y_load rfl ((box_load Ag35 Sz35 a4 [] [(.int .i64 a_.1), (.slice pa0 pn0 pc0)] [] rfl rfl (fun h => nomatch h)) _ (Chg.refl _ _))) ?_
   refine pl_yes (.slice pa1 pn1 pc1) (tg := 13) (by kernel_rfl) (congrArg Value.bool a0) (y_move rfl) ?_
   obtain ⟨r7, a9, hs⟩ := bind_some hs
   refine pl_cally (tg := 13) (by kernel_rfl) (congrArg Value.bool a0) Bd108 rfl (c_spec_l3End (M := M) (a_.1, a_.2) t 0 h0 h1 hO.fut a9) ?_
   rintro _ b1 ⟨rfl, a2⟩
   have h0 := h0.ext a2
   have h1 := h1.ext a2
   have a4 := a4.cn a2
   have hC := hC.ext a2
   have hO := hO.ext a2
   refine pl_yes (.slice pa1 pn1 pc1) (tg := 13) (by kernel_rfl) (congrArg Value.bool a0) (y_move rfl) ?_
   refine pl_yes (.int .i64 (t.length : Int)) (tg := 13) (by kernel_rfl) (congrArg Value.bool a0) (y_len' Sl43 (rs_len h1) rfl) ?_
   refine pl_yes (.bool (r7 == (t.length : Int))) (tg := 13) (by kernel_rfl) (congrArg Value.bool a0) (y_eql rfl rfl) ?_
   refine pl_val (.bool (r7 == (t.length : Int))) (y_pick_t (congrArg Value.bool a0) rfl) ?_
   refine pl_val (.bool (r7 == (t.length : Int))) (y_assign rfl) ?_
   refine c_nil ?_
   refine wp_ret ?_
   cases hs
   exact ⟨_, fr_ovl 21 ⟨rfl, trivial⟩, hC⟩
  refine pl_not (tg := 13) (by kernel_rfl) (congrArg Value.bool a0) ?_
  refine pl_not (tg := 13) (by kernel_rfl) (congrArg Value.bool a0) ?_
  refine pl_not (tg := 13) (by kernel_rfl) (congrArg Value.bool a0) ?_
  refine pl_not (tg := 13) (by kernel_rfl) (congrArg Value.bool a0) ?_
  refine pl_not (tg := 13) (by kernel_rfl) (congrArg Value.bool a0) ?_
  refine pl_not (tg := 13) (by kernel_rfl) (congrArg Value.bool a0) ?_
  refine pl_val (.bool false) (y_pick_f (congrArg Value.bool a0) rfl) ?_
  refine pl_val (.bool false) (y_assign rfl) ?_
  refine c_nil ?_
  refine wp_ret ?_
  cases hs
  exact ⟨_, fr_ovl 21 ⟨rfl, trivial⟩, hC⟩
 refine pl_not (tg := 8) (by kernel_rfl) (congrArg Value.bool a1) ?_
 refine pl_not (tg := 8) (by kernel_rfl) (congrArg Value.bool a1) ?_
 refine pl_not (tg := 8) (by kernel_rfl) (congrArg Value.bool a1) ?_
 refine pl_val (.bool false) (y_pick_f (congrArg Value.bool a1) rfl) ?_
 refine pl_val (.bool false) (y_move rfl) ?_
 refine pl_not (tg := 13) (by kernel_rfl) (by rfl) ?_
 refine pl_not (tg := 13) (by kernel_rfl) (by rfl) ?_
 refine pl_not (tg := 13) (by kernel_rfl) (by rfl) ?_
 refine pl_not (tg := 13) (by kernel_rfl) (by rfl) ?_
 refine pl_not (tg := 13) (by kernel_rfl) (by rfl) ?_
 refine pl_not (tg := 13) (by kernel_rfl) (by rfl) ?_
 refine pl_val (.bool false) (y_pick_f (by rfl) rfl) ?_
 refine pl_val (.bool false) (y_assign rfl) ?_
 refine c_nil ?_
 refine wp_ret ?_
 cases hs
 exact ⟨_, fr_ovl 21 ⟨rfl, trivial⟩, hC⟩

def k_spec_l3Fits (M : Nat → Prop) (w0 : World) (r : Bool) (a : Act) (w : World) : Prop :=
  ∃ (σ : Nat → Value) , a = fr 18 (ovl σ [(4, (.bool r))]) ∧ Chg [] w0 w
def s_spec_l3Fits (t : List Int) (n : Int) : Option (Bool) :=
  (forC (S := Unit) (R := Bool) (fun k7 s5 =>
  (idx t k7).bind fun x11 =>
  (bif (decide (n ≤ x11)) then some (.rt false) else some (.nx ()))) 0 (t.length : Int) ()).bind fun o9 => after o9 (fun r_ => some r_) (fun s5 =>
  some true)
set_option maxHeartbeats 4000000 in
theorem c_spec_l3Fits {M : Nat → Prop} {w : World} {pa0 : Option Addr} {pn0 pc0 : Nat} (t : List Int) (n : Int) (h0 : (RT.rs (RT.int .i64)).val M w (.slice pa0 pn0 pc0) t ([])) (hM : ∀ g, w.heap.size ≤ g → M g) {r : Bool} (hs : s_spec_l3Fits t n = some r) :
    Gives Try.prog 84 [(.slice pa0 pn0 pc0), (.int .i64 n)] w (fun v w' => v = (.bool r) ∧ Chg [] w w') := by
 refine calls_fr Try.func84 rfl Try.ntmps84 (Nat.le_of_ble_eq_true rfl) ?_
 have hO := Own.start (N := Nw w []) hM Nw.fut
 have hC := Chg.refl [] w
 unfold s_spec_l3Fits at hs
 refine wp_mono (Q := KPost (k_spec_l3Fits M w r)) ?_ (fun e a a2 h => ?_)
 rotate_left
 ·cases e
  case ret =>
   obtain ⟨σ, rfl, hrest⟩ := h
   exact ret1x Try.results84 (res_tmp rfl) ⟨rfl, hrest⟩
  all_goals exact (h : False).elim
 refine c_sr ?_
 refine pl_val (.bool false) (y_assign rfl) ?_
 refine c_nil ?_
 refine c_seq ?_
 refine c_sr ?_
 refine pl_val (.int .i64 0) (y_assign rfl) ?_
 refine c_nil ?_
 obtain ⟨o9, a3, hs⟩ := bind_some hs
 refine wp_block ?_
 refine wp_forC (id := 0) (t.length : Int) (I := fun k7 s5 a a0 => ∃ (σ : Nat → Value), a = fr 18 (ovl σ [(0, (.slice pa0 pn0 pc0)), (1, (.int .i64 n)), (5, (.int .i64 k7))]) ∧ Chg [] w a0 ∧ Own (Nw w []) M a0 ([]) ∧ (RT.rs (RT.int .i64)).val M a0 (.slice pa0 pn0 pc0) t ([])) (J := fun s5 a a0 => ∃ (σ : Nat → Value), a = fr 18 (ovl σ []) ∧ Chg [] w a0 ∧ Own (Nw w []) M a0 ([]) ∧ (RT.rs (RT.int .i64)).val M a0 (.slice pa0 pn0 pc0) t ([])) (K := (k_spec_l3Fits M w)) ?_ ?_ 0 () o9 _ _ ?_ a3 ?_
 ·rintro k7 s5 a a0 ⟨σ, rfl, hC, hO, h0⟩ hlt
  refine c_seq ?_
  refine c_sr ?_
  refine pl_val (.int .i64 k7) (y_move rfl) ?_
  refine pl_val (.slice pa0 pn0 pc0) (y_move rfl) ?_
  refine pl_val (.int .i64 (t.length : Int)) (y_len' Sl43 (rs_len h0) rfl) ?_
  refine pl_val (.bool (decide (k7 < (t.length : Int)))) (y_lss rfl rfl) ?_
  refine c_nil ?_
  refine c_condF (congrArg Value.bool (decide_eq_false hlt)) ?_
  refine wp_exit ?_
  exact ⟨rfl, _, fr_ovl 18 trivial, hC, hO, h0⟩
 ·rintro k7 s5 o9 a a0 ⟨σ, rfl, hC, hO, h0⟩ hlt hw hs
  refine c_seq ?_
  refine c_sr ?_
  refine pl_val (.int .i64 k7) (y_move rfl) ?_
  refine pl_val (.slice pa0 pn0 pc0) (y_move rfl) ?_
  refine pl_val (.int .i64 (t.length : Int)) (y_len' Sl43 (rs_len h0) rfl) ?_
  refine pl_val (.bool (decide (k7 < (t.length : Int)))) (y_lss rfl rfl) ?_
  refine c_nil ?_
  refine c_condT (congrArg Value.bool (decide_eq_true hlt)) ?_
  refine wp_skip ?_
  refine c_seq ?_
  refine wp_block ?_
  refine c_sr ?_
  refine pl_val (.slice pa0 pn0 pc0) (y_move rfl) ?_
  refine pl_val (.int .i64 k7) (y_move rfl) ?_
  obtain ⟨x11, a4, hs⟩ := bind_some hs
  obtain ⟨a5, a6, a7, a8⟩ := rs_idx Sl43 Sz3 h0 a4
  refine pl_val (.pointer (some ⟨a5, a6, none⟩)) (a7 _ _ _ _ _ _ _ _ _ rfl rfl) ?_
  refine pl_val (.int .i64 x11) (y_load rfl ((at_load_int Ag3 Sz3 a8) _ (Chg.refl _ _))) ?_
  refine pl_val (.int .i64 n) (y_move rfl) ?_
  refine pl_val (.bool (decide (n ≤ x11))) (y_geq rfl rfl) ?_
  refine c_nil ?_
  rcases bif_some hs with ⟨a1, hs⟩ | ⟨a1, hs⟩
  ·refine c_condT (congrArg Value.bool a1) ?_
   refine c_sr ?_
   refine pl_val (.bool false) (y_assign rfl) ?_
   refine c_nil ?_
   refine wp_ret ?_
   cases hs
   exact ⟨_, fr_ovl 18 ⟨rfl, trivial⟩, hC⟩
  refine c_condF (congrArg Value.bool a1) ?_
  refine wp_skip ?_
  refine c_region ?_
  refine pl_val (.int .i64 k7) (y_move rfl) ?_
  refine pl_val (.int .i64 (w64 (k7 + 1))) (y_add rfl rfl) ?_
  refine pl_val (.int .i64 (w64 (k7 + 1))) (y_assign rfl) ?_
  refine c_nil ?_
  cases hs
  exact ⟨_, fr_ovl 18 ⟨rfl, rfl, congrArg (Value.int .i64) hw, trivial⟩, hC, hO, h0⟩
 ·skip
  exact ⟨_, fr_ovl 18 ⟨rfl, rfl, rfl, trivial⟩, hC, hO, h0⟩
 cases o9 with
 | nx _ => exact True.intro
 | rt r_ =>
  have hs := after_rt hs
  intro a9 a2 hK
  cases hs
  exact hK
 | br s5 =>
  have hs := after_br hs
  rintro a9 a0 ⟨σ, rfl, hC, hO, h0⟩
  refine c_sr ?_
  refine pl_val (.bool true) (y_assign rfl) ?_
  refine c_nil ?_
  refine wp_ret ?_
  cases hs
  exact ⟨_, fr_ovl 18 ⟨rfl, trivial⟩, hC⟩

theorem Bd83 : Bodied Try.prog 83 := bodied Try.func83 (by kernel_rfl) rfl

theorem Bd84 : Bodied Try.prog 84 := bodied Try.func84 (by kernel_rfl) rfl

def k_spec_l11Term (M : Nat → Prop) (w0 : World) (r : Bool) (a : Act) (w : World) : Prop :=
  ∃ (σ : Nat → Value) , a = fr 15 (ovl σ [(6, (.bool r))]) ∧ Chg [] w0 w
def s_spec_l11Term (a_ : Int × (List (Int × (List Int)))) (k : Int) (t : List Int) : Option (Bool) :=
  (s_spec_l3Good (a_.1, a_.2) t).bind fun r5 =>
  (bif r5 then (s_spec_l3Fits t k).bind fun r8 =>
  some r8 else some false)
set_option maxHeartbeats 4000000 in
theorem c_spec_l11Term {M : Nat → Prop} {w : World} {pa0 : Option Addr} {pn0 pc0 : Nat} {pa1 : Option Addr} {pn1 pc1 : Nat} (a_ : Int × (List (Int × (List Int)))) (k : Int) (t : List Int) (h0 : (RT.rs (RT.pr (RT.int .i64) (RT.rs (RT.int .i64)))).val M w (.slice pa0 pn0 pc0) a_.2 ([])) (h1 : (RT.rs (RT.int .i64)).val M w (.slice pa1 pn1 pc1) t ([])) (hM : ∀ g, w.heap.size ≤ g → M g) {r : Bool} (hs : s_spec_l11Term a_ k t = some r) :
    Gives Try.prog 45 [(.agg #[(.int .i64 a_.1), (.slice pa0 pn0 pc0)]), (.int .i64 k), (.slice pa1 pn1 pc1)] w (fun v w' => v = (.bool r) ∧ Chg [] w w') := by
 refine calls_fr Try.func45 rfl Try.ntmps45 (Nat.le_of_ble_eq_true rfl) ?_
 have hO := Own.start (N := Nw w []) hM Nw.fut
 have hC := Chg.refl [] w
 unfold s_spec_l11Term at hs
 refine wp_mono (Q := KPost (k_spec_l11Term M w r)) ?_ (fun e a b1 h => ?_)
 rotate_left
 ·cases e
  case ret =>
   obtain ⟨σ, rfl, hrest⟩ := h
   exact ret1x Try.results45 (res_tmp rfl) ⟨rfl, hrest⟩
  all_goals exact (h : False).elim
 refine c_sr ?_
 obtain ⟨a6, a7, a8, a5, a4, a1⟩ := new_block w [(.int .i64 a_.1), (.slice pa0 pn0 pc0)] 35
 refine pl_val (w' := a6) (.pointer (some ⟨a7, 0, none⟩)) (y_box rfl (by rw [a8, a5]; kernel_rfl)) ?_
 have h0 := h0.ext a4
 have h1 := h1.ext a4
 have hC := hC.ext a4
 have hO := hO.new1 a4 a5 a1.lt
 refine pl_val (.bool false) (y_assign rfl) ?_
 refine c_nil ?_
 refine c_sr ?_
 refine pl_val (.agg #[(.int .i64 a_.1), (.slice pa0 pn0 pc0)]) (y_load rfl ((box_load Ag35 Sz35 a1 [] [(.int .i64 a_.1), (.slice pa0 pn0 pc0)] [] rfl rfl (fun h => nomatch h)) _ (Chg.refl _ _))) ?_
 refine pl_val (.slice pa1 pn1 pc1) (y_move rfl) ?_
 obtain ⟨r5, a9, hs⟩ := bind_some hs
 refine pl_call Bd83 rfl (c_spec_l3Good (M := M) (a_.1, a_.2) t h0 h1 hO.fut a9) ?_
 rintro _ b2 ⟨rfl, a2⟩
 have h0 := h0.ext a2
 have h1 := h1.ext a2
 have a1 := a1.cn a2
 have hC := hC.ext a2
 have hO := hO.ext a2
 refine pl_val (.bool r5) (y_move rfl) ?_
 rcases bif_some hs with ⟨a0, hs⟩ | ⟨a0, hs⟩
 ·skip
  refine pl_yes (.slice pa1 pn1 pc1) (tg := 10) (by kernel_rfl) (congrArg Value.bool a0) (y_move rfl) ?_
  refine pl_yes (.int .i64 k) (tg := 10) (by kernel_rfl) (congrArg Value.bool a0) (y_move rfl) ?_
  obtain ⟨r8, b0, hs⟩ := bind_some hs
  refine pl_cally (tg := 10) (by kernel_rfl) (congrArg Value.bool a0) Bd84 rfl (c_spec_l3Fits (M := M) t k h1 hO.fut b0) ?_
  rintro _ b3 ⟨rfl, a3⟩
  have h0 := h0.ext a3
  have h1 := h1.ext a3
  have a1 := a1.cn a3
  have hC := hC.ext a3
  have hO := hO.ext a3
  refine pl_val (.bool r8) (y_pick_t (congrArg Value.bool a0) rfl) ?_
  refine pl_val (.bool r8) (y_assign rfl) ?_
  refine c_nil ?_
  refine wp_ret ?_
  cases hs
  exact ⟨_, fr_ovl 15 ⟨rfl, trivial⟩, hC⟩
 refine pl_not (tg := 10) (by kernel_rfl) (congrArg Value.bool a0) ?_
 refine pl_not (tg := 10) (by kernel_rfl) (congrArg Value.bool a0) ?_
 refine pl_not (tg := 10) (by kernel_rfl) (congrArg Value.bool a0) ?_
 refine pl_val (.bool false) (y_pick_f (congrArg Value.bool a0) rfl) ?_
 refine pl_val (.bool false) (y_assign rfl) ?_
 refine c_nil ?_
 refine wp_ret ?_
 cases hs
 exact ⟨_, fr_ovl 15 ⟨rfl, trivial⟩, hC⟩

def k_spec_l2Value (M : Nat → Prop) (w0 : World) (r : Int) (a : Act) (w : World) : Prop :=
  ∃ (σ : Nat → Value) , a = fr 33 (ovl σ [(6, (.int .i64 r))]) ∧ Chg [] w0 w
def s_spec_l2Value (a_ : Int × (List (Int × (List Int)))) (op : Int) (args : List Int) : Option (Int) :=
  (forC (S := Int) (R := Int) (fun k9 s7 =>
  (idx args k9).bind fun x14 =>
  some (.nx (w64 ((w64 (s7 * a_.1)) + x14)))) 0 (args.length : Int) 0).bind fun o11 => after o11 (fun r_ => some r_) (fun s7 =>
  (idx a_.2 op).bind fun x16 =>
  (idx x16.2 s7).bind fun x21 =>
  some x21)
set_option maxHeartbeats 4000000 in
theorem c_spec_l2Value {M : Nat → Prop} {w : World} {pa0 : Option Addr} {pn0 pc0 : Nat} {pa1 : Option Addr} {pn1 pc1 : Nat} (a_ : Int × (List (Int × (List Int)))) (op : Int) (args : List Int) (h0 : (RT.rs (RT.pr (RT.int .i64) (RT.rs (RT.int .i64)))).val M w (.slice pa0 pn0 pc0) a_.2 ([])) (h1 : (RT.rs (RT.int .i64)).val M w (.slice pa1 pn1 pc1) args ([])) (hM : ∀ g, w.heap.size ≤ g → M g) {r : Int} (hs : s_spec_l2Value a_ op args = some r) :
    Gives Try.prog 109 [(.agg #[(.int .i64 a_.1), (.slice pa0 pn0 pc0)]), (.int .i64 op), (.slice pa1 pn1 pc1)] w (fun v w' => v = (.int .i64 r) ∧ Chg [] w w') := by
 refine calls_fr Try.func109 rfl Try.ntmps109 (Nat.le_of_ble_eq_true rfl) ?_
 have hO := Own.start (N := Nw w []) hM Nw.fut
 have hC := Chg.refl [] w
 unfold s_spec_l2Value at hs
 refine wp_mono (Q := KPost (k_spec_l2Value M w r)) ?_ (fun e a a9 h => ?_)
 rotate_left
 ·cases e
  case ret =>
   obtain ⟨σ, rfl, hrest⟩ := h
   exact ret1x Try.results109 (res_tmp rfl) ⟨rfl, hrest⟩
  all_goals exact (h : False).elim
 refine c_sr ?_
 obtain ⟨b0, a2, b1, a5, a4, a1⟩ := new_block w [(.int .i64 a_.1), (.slice pa0 pn0 pc0)] 35
 refine pl_val (w' := b0) (.pointer (some ⟨a2, 0, none⟩)) (y_box rfl (by rw [b1, a5]; kernel_rfl)) ?_
 have h0 := h0.ext a4
 have h1 := h1.ext a4
 have hC := hC.ext a4
 have hO := hO.new1 a4 a5 a1.lt
 refine pl_val (.int .i64 0) (y_assign rfl) ?_
 refine c_nil ?_
 refine c_sr ?_
 refine pl_val (.int .i64 0) (y_assign rfl) ?_
 refine c_nil ?_
 refine c_seq ?_
 refine c_sr ?_
 refine pl_val (.int .i64 0) (y_assign rfl) ?_
 refine c_nil ?_
 obtain ⟨o11, b2, hs⟩ := bind_some hs
 refine wp_block ?_
 refine wp_forC (id := 0) (args.length : Int) (I := fun k9 s7 a a0 => ∃ (σ : Nat → Value), a = fr 33 (ovl σ [(1, (.int .i64 op)), (2, (.slice pa1 pn1 pc1)), (3, (.pointer (some ⟨a2, 0, none⟩))), (7, (.int .i64 s7)), (8, (.int .i64 k9))]) ∧ Chg [] w a0 ∧ Own (Nw w []) M a0 (([a2]) ++ []) ∧ (RT.rs (RT.pr (RT.int .i64) (RT.rs (RT.int .i64)))).val M a0 (.slice pa0 pn0 pc0) a_.2 ([]) ∧ (RT.rs (RT.int .i64)).val M a0 (.slice pa1 pn1 pc1) args ([]) ∧ BoxV a0 a2 35 [(.int .i64 a_.1), (.slice pa0 pn0 pc0)]) (J := fun s7 a a0 => ∃ (σ : Nat → Value), a = fr 33 (ovl σ [(1, (.int .i64 op)), (3, (.pointer (some ⟨a2, 0, none⟩))), (7, (.int .i64 s7))]) ∧ Chg [] w a0 ∧ Own (Nw w []) M a0 (([a2]) ++ []) ∧ (RT.rs (RT.pr (RT.int .i64) (RT.rs (RT.int .i64)))).val M a0 (.slice pa0 pn0 pc0) a_.2 ([]) ∧ (RT.rs (RT.int .i64)).val M a0 (.slice pa1 pn1 pc1) args ([]) ∧ BoxV a0 a2 35 [(.int .i64 a_.1), (.slice pa0 pn0 pc0)]) (K := (k_spec_l2Value M w)) ?_ ?_ 0 0 o11 _ _ ?_ b2 ?_
 ·rintro k9 s7 a a0 ⟨σ, rfl, hC, hO, h0, h1, a1⟩ hlt
  refine c_seq ?_
  refine c_sr ?_
  refine pl_val (.int .i64 k9) (y_move rfl) ?_
  refine pl_val (.slice pa1 pn1 pc1) (y_move rfl) ?_
  refine pl_val (.int .i64 (args.length : Int)) (y_len' Sl43 (rs_len h1) rfl) ?_
  refine pl_val (.bool (decide (k9 < (args.length : Int)))) (y_lss rfl rfl) ?_
  refine c_nil ?_
  refine c_condF (congrArg Value.bool (decide_eq_false hlt)) ?_
  refine wp_exit ?_
  exact ⟨rfl, _, fr_ovl 33 ⟨rfl, rfl, rfl, trivial⟩, hC, hO, h0, h1, a1⟩
 ·rintro k9 s7 o11 a a0 ⟨σ, rfl, hC, hO, h0, h1, a1⟩ hlt hw hs
  refine c_seq ?_
  refine c_sr ?_
  refine pl_val (.int .i64 k9) (y_move rfl) ?_
  refine pl_val (.slice pa1 pn1 pc1) (y_move rfl) ?_
  refine pl_val (.int .i64 (args.length : Int)) (y_len' Sl43 (rs_len h1) rfl) ?_
  refine pl_val (.bool (decide (k9 < (args.length : Int)))) (y_lss rfl rfl) ?_
  refine c_nil ?_
  refine c_condT (congrArg Value.bool (decide_eq_true hlt)) ?_
  refine wp_skip ?_
  refine c_seq ?_
  refine wp_block ?_
  refine x_start [] Mx rfl ?_
  have a3 := Chg.drew a0
  generalize World.drew a0 = b3 at a3 ⊢
  have h0 := h0.ext a3
  have h1 := h1.ext a3
  have a1 := a1.cn a3
  have hC := hC.ext a3
  have hO := hO.ext a3
  have hS := Chg.refl [] b3
  refine x_p 0 (.int .i64 s7) rfl (by kernel_rfl)  (fun _ => y_move rfl) (fun _ => hS) ?_
  refine x_p 1 (.pointer (some ⟨a2, 0, none⟩)) rfl (by kernel_rfl)  (fun _ => y_faddr rfl Fa35x0) (fun _ => hS) ?_
  refine x_l 2 (.int .i64 a_.1) rfl (by kernel_rfl)  (fun w' hw' => y_load rfl ((box_load Ag3 Sz3 a1 [] [(.int .i64 a_.1)] [(.slice pa0 pn0 pc0)] rfl rfl (fun _ => rfl)) w' hw')) hS ?_
  refine x_p 3 (.int .i64 (w64 (s7 * a_.1))) rfl (by kernel_rfl)  (fun _ => y_mul rfl rfl) (fun _ => hS) ?_
  refine x_p 4 (.slice pa1 pn1 pc1) rfl (by kernel_rfl)  (fun _ => y_move rfl) (fun _ => hS) ?_
  refine x_p 5 (.int .i64 k9) rfl (by kernel_rfl)  (fun _ => y_move rfl) (fun _ => hS) ?_
  obtain ⟨x14, b4, hs⟩ := bind_some hs
  obtain ⟨b5, b6, b7, b8⟩ := rs_idx Sl43 Sz3 h1 b4
  refine x_p 6 (.pointer (some ⟨b5, b6, none⟩)) rfl (by kernel_rfl)  (fun _ => b7 _ _ _ _ _ _ _ _ _ rfl rfl) (fun _ => hS) ?_
  refine x_l 7 (.int .i64 x14) rfl (by kernel_rfl)  (fun w' hw' => y_load rfl ((at_load_int Ag3 Sz3 b8) w' hw')) hS ?_
  refine x_p 8 (.int .i64 (w64 ((w64 (s7 * a_.1)) + x14))) rfl (by kernel_rfl)  (fun _ => y_add rfl rfl) (fun _ => hS) ?_
  refine x_p 9 (.int .i64 (w64 ((w64 (s7 * a_.1)) + x14))) rfl (by kernel_rfl)  (fun _ => y_assign rfl) (fun _ => hS) ?_
  refine x_end (by kernel_rfl) ?_
  clear hS
  refine c_region ?_
  refine pl_val (.int .i64 k9) (y_move rfl) ?_
  refine pl_val (.int .i64 (w64 (k9 + 1))) (y_add rfl rfl) ?_
  refine pl_val (.int .i64 (w64 (k9 + 1))) (y_assign rfl) ?_
  refine c_nil ?_
  cases hs
  exact ⟨_, fr_ovl 33 ⟨rfl, rfl, rfl, rfl, congrArg (Value.int .i64) hw, trivial⟩, hC, hO, h0, h1, a1⟩
 ·skip
  exact ⟨_, fr_ovl 33 ⟨rfl, rfl, rfl, rfl, rfl, trivial⟩, hC, hO, h0, h1, a1⟩
 cases o11 with
 | nx _ => exact True.intro
 | rt r_ =>
  have hs := after_rt hs
  intro b9 a9 hK
  cases hs
  exact hK
 | br s7 =>
  have hs := after_br hs
  rintro b9 a0 ⟨σ, rfl, hC, hO, h0, h1, a1⟩
  refine c_sr ?_
  refine pl_val (.pointer (some ⟨a2, 1, none⟩)) (y_faddr rfl Fa35x1) ?_
  refine pl_val (.slice pa0 pn0 pc0) (y_load rfl ((box_load Ag33 Sz33 a1 [(.int .i64 a_.1)] [(.slice pa0 pn0 pc0)] [] rfl rfl (fun _ => rfl)) _ (Chg.refl _ _))) ?_
  refine pl_val (.int .i64 op) (y_move rfl) ?_
  obtain ⟨x16, c0, hs⟩ := bind_some hs
  obtain ⟨a6, a7, c1, c2⟩ := rs_idx Sl33 Sz89 h0 c0
  refine pl_val (.pointer (some ⟨a6, a7, none⟩)) (c1 _ _ _ _ _ _ _ _ _ rfl rfl) ?_
  obtain ⟨_, c3⟩ := pr_at c2
  refine pl_val (.pointer (some ⟨a6, a7 + 1, none⟩)) (y_faddr rfl Fa89x1) ?_
  obtain ⟨d3, c4, a8⟩ := at_load Ag43 Sz43 (fun _ => rfl) c3
  obtain ⟨c5, c6, c7, rfl⟩ := rs_sl a8
  refine pl_val (.slice c5 c6 c7) (y_load rfl (c4 _ (Chg.refl _ _))) ?_
  refine pl_val (.int .i64 s7) (y_move rfl) ?_
  obtain ⟨x21, c8, hs⟩ := bind_some hs
  obtain ⟨c9, d0, d1, d2⟩ := rs_idx Sl43 Sz3 a8 c8
  refine pl_val (.pointer (some ⟨c9, d0, none⟩)) (d1 _ _ _ _ _ _ _ _ _ rfl rfl) ?_
  refine pl_val (.int .i64 x21) (y_load rfl ((at_load_int Ag3 Sz3 d2) _ (Chg.refl _ _))) ?_
  refine pl_val (.int .i64 x21) (y_assign rfl) ?_
  refine c_nil ?_
  refine wp_ret ?_
  cases hs
  exact ⟨_, fr_ovl 33 ⟨rfl, trivial⟩, hC⟩

theorem Bd109 : Bodied Try.prog 109 := bodied Try.func109 (by kernel_rfl) rfl

def k_spec_l3Value (M : Nat → Prop) (w0 : World) (r : Int) (a : Act) (w : World) : Prop :=
  ∃ (σ : Nat → Value) , a = fr 79 (ovl σ [(6, (.int .i64 r))]) ∧ Chg [] w0 w
def s_spec_l3Value (a_ : Int × (List (Int × (List Int)))) (t : List Int) (values : List Int) : Option (Int) :=
  (iter (S := (List Int) × Int) (R := Int) (fun s75 =>
  (bif (decide (0 ≤ s75.2)) then (idx t s75.2).bind fun x86 =>
  (bif (decide (0 ≤ x86)) then (idx t s75.2).bind fun x89 =>
  (idx values x89).bind fun x91 =>
  (app s75.1 ([x91])).bind fun y96 =>
  some (.nx (y96, w64 (s75.2 - 1))) else (idx t s75.2).bind fun x98 =>
  (iter (S := (List Int) × Int) (R := Int) (fun s115 =>
  (idx a_.2 (w64 ((-1) - x98))).bind fun x125 =>
  (bif (decide (s115.2 < x125.1)) then (idx s75.1 (w64 ((w64 ((s75.1.length : Int) - 1)) - s115.2))).bind fun x129 =>
  (app s115.1 ([x129])).bind fun y134 =>
  some (.nx (y134, w64 (s115.2 + 1))) else some (.br (s115.1, s115.2)))) FU ([], 0)).bind fun o119 => after o119 (fun r_ => some (.rt r_)) (fun s115 =>
  (slc s75.1 0 (w64 ((s75.1.length : Int) - (s115.1.length : Int)))).bind fun y138 =>
  (s_spec_l1Own y138).bind fun r141 =>
  (s_spec_l2Value (a_.1, a_.2) (w64 ((-1) - x98)) s115.1).bind fun r144 =>
  (app r141 ([r144])).bind fun y148 =>
  some (.nx (y148, w64 (s75.2 - 1))))) else some (.br (s75.1, s75.2)))) FU ([], w64 ((t.length : Int) - 1))).bind fun o79 => after o79 (fun r_ => some r_) (fun s75 =>
  (idx s75.1 0).bind fun x150 =>
  some x150)
set_option maxHeartbeats 4000000 in
theorem c_spec_l3Value {M : Nat → Prop} {w : World} {pa0 : Option Addr} {pn0 pc0 : Nat} {pa1 : Option Addr} {pn1 pc1 : Nat} {pa2 : Option Addr} {pn2 pc2 : Nat} (a_ : Int × (List (Int × (List Int)))) (t : List Int) (values : List Int) (h0 : (RT.rs (RT.pr (RT.int .i64) (RT.rs (RT.int .i64)))).val M w (.slice pa0 pn0 pc0) a_.2 ([])) (h1 : (RT.rs (RT.int .i64)).val M w (.slice pa1 pn1 pc1) t ([])) (h2 : (RT.rs (RT.int .i64)).val M w (.slice pa2 pn2 pc2) values ([])) (hM : ∀ g, w.heap.size ≤ g → M g) {r : Int} (hs : s_spec_l3Value a_ t values = some r) :
    Gives Try.prog 86 [(.agg #[(.int .i64 a_.1), (.slice pa0 pn0 pc0)]), (.slice pa1 pn1 pc1), (.slice pa2 pn2 pc2)] w (fun v w' => v = (.int .i64 r) ∧ Chg [] w w') := by
 refine calls_fr Try.func86 rfl Try.ntmps86 (Nat.le_of_ble_eq_true rfl) ?_
 have hO := Own.start (N := Nw w []) hM Nw.fut
 have hC := Chg.refl [] w
 unfold s_spec_l3Value at hs
 refine wp_mono (Q := KPost (k_spec_l3Value M w r)) ?_ (fun e a h3 h => ?_)
 rotate_left
 ·cases e
  case ret =>
   obtain ⟨σ, rfl, hrest⟩ := h
   exact ret1x Try.results86 (res_tmp rfl) ⟨rfl, hrest⟩
  all_goals exact (h : False).elim
 refine c_sr ?_
 obtain ⟨h4, a4, j6, h5, c7, a0⟩ := new_block w [(.int .i64 a_.1), (.slice pa0 pn0 pc0)] 35
 refine pl_val (w' := h4) (.pointer (some ⟨a4, 0, none⟩)) (y_box rfl (by rw [j6, h5]; kernel_rfl)) ?_
 have h0 := h0.ext c7
 have h1 := h1.ext c7
 have h2 := h2.ext c7
 have hC := hC.ext c7
 have hO := hO.new1 c7 h5 a0.lt
 refine pl_val (.int .i64 0) (y_assign rfl) ?_
 refine c_nil ?_
 refine c_sr ?_
 obtain ⟨h6, c2, j7, h7, c3, h8⟩ := new_block h4 [] 3
 refine pl_val (w' := h6) (.slice (some ⟨c2, 0, none⟩) 0 0) (y_bslice rfl (by rw [j7, h7]; kernel_rfl)) ?_
 have h0 := h0.ext c3
 have h1 := h1.ext c3
 have h2 := h2.ext c3
 have a0 := a0.cn c3
 have hC := hC.ext c3
 have hO := hO.new1 c3 h7 h8.lt
 have e1 := os_of_box (r := (RT.int .i64)) (M := M) (css := []) (fps := []) (xs := ([] : List Int)) h8 trivial (Nat.zero_le _) (List.nodup_cons.2 ⟨(fun h => nomatch h), List.nodup_nil⟩)
 have e1 : (RT.os 3 (RT.int .i64)).val M h6 (.slice (some ⟨c2, 0, none⟩) 0 0) [] [c2] := e1
 refine pl_val (.slice (some ⟨c2, 0, none⟩) 0 0) (y_assign rfl) ?_
 refine c_nil ?_
 refine c_seq ?_
 refine c_sr ?_
 refine pl_val (.slice pa1 pn1 pc1) (y_move rfl) ?_
 refine pl_val (.int .i64 (t.length : Int)) (y_len' Sl43 (rs_len h1) rfl) ?_
 refine pl_val (.int .i64 (w64 ((t.length : Int) - 1))) (y_sub rfl rfl) ?_
 refine pl_val (.int .i64 (w64 ((t.length : Int) - 1))) (y_assign rfl) ?_
 refine c_nil ?_
 obtain ⟨o79, j8, hs⟩ := bind_some hs
 refine wp_block ?_
 refine wp_iter (id := 0) (I := fun s75 a a3 => ∃ (σ : Nat → Value) (a5 : Option Addr) (a6 : Nat) (a7 : Nat) (b2 : List Nat), a = fr 79 (ovl σ [(1, (.slice pa1 pn1 pc1)), (2, (.slice pa2 pn2 pc2)), (3, (.pointer (some ⟨a4, 0, none⟩))), (7, (.slice a5 a6 a7)), (8, (.int .i64 s75.2))]) ∧ Chg [] w a3 ∧ Own (Nw w []) M a3 (b2 ++ (([a4]) ++ [])) ∧ (RT.rs (RT.pr (RT.int .i64) (RT.rs (RT.int .i64)))).val M a3 (.slice pa0 pn0 pc0) a_.2 ([]) ∧ (RT.rs (RT.int .i64)).val M a3 (.slice pa1 pn1 pc1) t ([]) ∧ (RT.rs (RT.int .i64)).val M a3 (.slice pa2 pn2 pc2) values ([]) ∧ BoxV a3 a4 35 [(.int .i64 a_.1), (.slice pa0 pn0 pc0)] ∧ (RT.os 3 (RT.int .i64)).val M a3 (.slice a5 a6 a7) s75.1 b2) (J := fun s75 a a3 => ∃ (σ : Nat → Value) (d7 : Option Addr) (d8 : Nat) (d9 : Nat) (e2 : List Nat), a = fr 79 (ovl σ [(7, (.slice d7 d8 d9))]) ∧ Chg [] w a3 ∧ Own (Nw w []) M a3 (e2 ++ (([a4]) ++ [])) ∧ (RT.rs (RT.pr (RT.int .i64) (RT.rs (RT.int .i64)))).val M a3 (.slice pa0 pn0 pc0) a_.2 ([]) ∧ (RT.rs (RT.int .i64)).val M a3 (.slice pa1 pn1 pc1) t ([]) ∧ (RT.rs (RT.int .i64)).val M a3 (.slice pa2 pn2 pc2) values ([]) ∧ BoxV a3 a4 35 [(.int .i64 a_.1), (.slice pa0 pn0 pc0)] ∧ (RT.os 3 (RT.int .i64)).val M a3 (.slice d7 d8 d9) s75.1 e2) (K := (k_spec_l3Value M w)) ?_ FU ([], w64 ((t.length : Int) - 1)) o79 _ _ ?_ j8 ?_
 ·rintro s75 o79 a a3 ⟨σ, a5, a6, a7, b2, rfl, hC, hO, h0, h1, h2, a0, a1⟩ hs
  refine c_seq ?_
  refine c_sr ?_
  refine pl_val (.int .i64 s75.2) (y_move rfl) ?_
  refine pl_val (.bool (decide (0 ≤ s75.2))) (y_geq rfl rfl) ?_
  refine c_nil ?_
  rcases bif_some hs with ⟨e3, hs⟩ | ⟨e3, hs⟩
  ·refine c_condT (congrArg Value.bool e3) ?_
   refine wp_skip ?_
   refine c_seq ?_
   refine wp_block ?_
   refine c_seq ?_
   refine c_sr ?_
   refine pl_val (.slice pa1 pn1 pc1) (y_move rfl) ?_
   refine pl_val (.int .i64 s75.2) (y_move rfl) ?_
   obtain ⟨x86, j9, hs⟩ := bind_some hs
   obtain ⟨k0, k1, k2, k3⟩ := rs_idx Sl43 Sz3 h1 j9
   refine pl_val (.pointer (some ⟨k0, k1, none⟩)) (k2 _ _ _ _ _ _ _ _ _ rfl rfl) ?_
   refine pl_val (.int .i64 x86) (y_load rfl ((at_load_int Ag3 Sz3 k3) _ (Chg.refl _ _))) ?_
   refine pl_val (.bool (decide (0 ≤ x86))) (y_geq rfl rfl) ?_
   refine c_nil ?_
   rcases bif_some hs with ⟨e4, hs⟩ | ⟨e4, hs⟩
   ·refine c_condT (congrArg Value.bool e4) ?_
    refine c_sr ?_
    refine pl_val (.slice a5 a6 a7) (y_move rfl) ?_
    refine pl_val (.slice pa2 pn2 pc2) (y_move rfl) ?_
    refine pl_val (.slice pa1 pn1 pc1) (y_move rfl) ?_
    refine pl_val (.int .i64 s75.2) (y_move rfl) ?_
    obtain ⟨x89, k4, hs⟩ := bind_some hs
    obtain ⟨k5, k6, k7, e5⟩ := rs_idx Sl43 Sz3 h1 k4
    refine pl_val (.pointer (some ⟨k5, k6, none⟩)) (k7 _ _ _ _ _ _ _ _ _ rfl rfl) ?_
    refine pl_val (.int .i64 x89) (y_load rfl ((at_load_int Ag3 Sz3 e5) _ (Chg.refl _ _))) ?_
    obtain ⟨x91, k8, hs⟩ := bind_some hs
    obtain ⟨k9, l0, l1, e6⟩ := rs_idx Sl43 Sz3 h2 k8
    refine pl_val (.pointer (some ⟨k9, l0, none⟩)) (l1 _ _ _ _ _ _ _ _ _ rfl rfl) ?_
    refine pl_val (.int .i64 x91) (y_load rfl ((at_load_int Ag3 Sz3 e6) _ (Chg.refl _ _))) ?_
    obtain ⟨h9, e7, l2, i0, b3, i1⟩ := new_block a3 [(.int .i64 x91)] 3
    refine pl_val (w' := h9) (.slice (some ⟨e7, 0, none⟩) 1 1) (y_bslice rfl (by rw [l2, i0]; kernel_rfl)) ?_
    have h0 := h0.ext b3
    have h1 := h1.ext b3
    have h2 := h2.ext b3
    have a0 := a0.cn b3
    have a1 := a1.ext b3
    have e5 := at_ext e5 b3
    have e6 := at_ext e6 b3
    have hC := hC.ext b3
    have hO := hO.new1 b3 i0 i1.lt
    have e8 := os_of_box (r := (RT.int .i64)) (M := M) (css := [[(.int .i64 x91)]]) (fps := [([] : List Nat)]) (xs := ([x91] : List Int)) i1 ⟨⟨rfl, rfl⟩, trivial⟩ (Nat.le_of_ble_eq_true rfl) (List.nodup_cons.2 ⟨(fun h => nomatch h), List.nodup_nil⟩)
    have e8 : (RT.os 3 (RT.int .i64)).val M h9 (.slice (some ⟨e7, 0, none⟩) 1 1) [x91] [e7] := e8
    obtain ⟨y96, l3, hs⟩ := bind_some hs
    have hO := hO.fr1
    obtain ⟨e9, f0, f1, l4, l5, l6, c4, l7, f2⟩ := app_os Rw43 l3 a1 e8 hO.inM (fun g hg hq => hO.apart g hq (mem_l hg))
    have c8 := os_block a1
    refine pl_val (w' := l4) (.slice e9 f0 f1) (y_append rfl rfl (l6 _)) ?_
    have hO := hO.fr1
    have hO := hO.fr1
    have h0 := h0.mt c4 hO c8
    have h1 := h1.mt c4 hO c8
    have h2 := h2.mt c4 hO c8
    have a0 := a0.ap c4 hO c8 (mem_r (mem_l (List.mem_singleton.2 rfl)))
    have hC := hC.st c4 hO c8
    have hO := hO.eat c4 l7 (os_nodup f2) f2.fpl
    refine pl_val (.slice e9 f0 f1) (y_assign rfl) ?_
    refine c_nil ?_
    refine wp_exit ?_
    refine c_region ?_
    refine pl_val (.int .i64 s75.2) (y_move rfl) ?_
    refine pl_val (.int .i64 (w64 (s75.2 - 1))) (y_sub rfl rfl) ?_
    refine pl_val (.int .i64 (w64 (s75.2 - 1))) (y_assign rfl) ?_
    refine c_nil ?_
    cases hs
    have hO := hO.fr1
    have hO := hO.fr1
    exact ⟨_, e9, f0, f1, l5, fr_ovl 79 ⟨rfl, rfl, rfl, rfl, rfl, trivial⟩, hC, hO, h0, h1, h2, a0, f2⟩
   refine c_condF (congrArg Value.bool e4) ?_
   refine wp_skip ?_
   refine c_sr ?_
   refine pl_val (.slice pa1 pn1 pc1) (y_move rfl) ?_
   refine pl_val (.int .i64 s75.2) (y_move rfl) ?_
   obtain ⟨x98, l8, hs⟩ := bind_some hs
   obtain ⟨l9, m0, m1, f3⟩ := rs_idx Sl43 Sz3 h1 l8
   refine pl_val (.pointer (some ⟨l9, m0, none⟩)) (m1 _ _ _ _ _ _ _ _ _ rfl rfl) ?_
   refine pl_val (.int .i64 x98) (y_load rfl ((at_load_int Ag3 Sz3 f3) _ (Chg.refl _ _))) ?_
   refine pl_val (.int .i64 (w64 ((-1) - x98))) (y_sub rfl rfl) ?_
   obtain ⟨i2, c5, m2, i3, c0, i4⟩ := new_block a3 [] 3
   refine pl_val (w' := i2) (.slice (some ⟨c5, 0, none⟩) 0 0) (y_bslice rfl (by rw [m2, i3]; kernel_rfl)) ?_
   have h0 := h0.ext c0
   have h1 := h1.ext c0
   have h2 := h2.ext c0
   have a0 := a0.cn c0
   have a1 := a1.ext c0
   have f3 := at_ext f3 c0
   have hC := hC.ext c0
   have hO := hO.new1 c0 i3 i4.lt
   have f4 := os_of_box (r := (RT.int .i64)) (M := M) (css := []) (fps := []) (xs := ([] : List Int)) i4 trivial (Nat.zero_le _) (List.nodup_cons.2 ⟨(fun h => nomatch h), List.nodup_nil⟩)
   have f4 : (RT.os 3 (RT.int .i64)).val M i2 (.slice (some ⟨c5, 0, none⟩) 0 0) [] [c5] := f4
   refine pl_val (.int .i64 (w64 ((-1) - x98))) (y_assign rfl) ?_
   refine pl_val (.slice (some ⟨c5, 0, none⟩) 0 0) (y_assign rfl) ?_
   refine c_nil ?_
   refine c_seq ?_
   refine c_sr ?_
   refine pl_val (.int .i64 0) (y_assign rfl) ?_
   refine c_nil ?_
   obtain ⟨o119, m3, hs⟩ := bind_some hs
   refine wp_block ?_
   refine wp_iter (id := 2) (I := fun s115 a a2 => ∃ (σ : Nat → Value) (c9 : Option Addr) (d0 : Nat) (d1 : Nat) (e0 : List Nat), a = fr 79 (ovl σ [(1, (.slice pa1 pn1 pc1)), (2, (.slice pa2 pn2 pc2)), (3, (.pointer (some ⟨a4, 0, none⟩))), (7, (.slice a5 a6 a7)), (8, (.int .i64 s75.2)), (9, (.int .i64 (w64 ((-1) - x98)))), (10, (.slice c9 d0 d1)), (11, (.int .i64 s115.2))]) ∧ Chg [] w a2 ∧ Own (Nw w []) M a2 (e0 ++ (b2 ++ (([a4]) ++ []))) ∧ (RT.rs (RT.pr (RT.int .i64) (RT.rs (RT.int .i64)))).val M a2 (.slice pa0 pn0 pc0) a_.2 ([]) ∧ (RT.rs (RT.int .i64)).val M a2 (.slice pa1 pn1 pc1) t ([]) ∧ (RT.rs (RT.int .i64)).val M a2 (.slice pa2 pn2 pc2) values ([]) ∧ BoxV a2 a4 35 [(.int .i64 a_.1), (.slice pa0 pn0 pc0)] ∧ (RT.os 3 (RT.int .i64)).val M a2 (.slice a5 a6 a7) s75.1 b2 ∧ (RT.os 3 (RT.int .i64)).val M a2 (.slice c9 d0 d1) s115.1 e0) (J := fun s115 a a2 => ∃ (σ : Nat → Value) (d2 : Option Addr) (d3 : Nat) (d4 : Nat) (d5 : List Nat), a = fr 79 (ovl σ [(1, (.slice pa1 pn1 pc1)), (2, (.slice pa2 pn2 pc2)), (3, (.pointer (some ⟨a4, 0, none⟩))), (7, (.slice a5 a6 a7)), (8, (.int .i64 s75.2)), (9, (.int .i64 (w64 ((-1) - x98)))), (10, (.slice d2 d3 d4))]) ∧ Chg [] w a2 ∧ Own (Nw w []) M a2 (d5 ++ (b2 ++ (([a4]) ++ []))) ∧ (RT.rs (RT.pr (RT.int .i64) (RT.rs (RT.int .i64)))).val M a2 (.slice pa0 pn0 pc0) a_.2 ([]) ∧ (RT.rs (RT.int .i64)).val M a2 (.slice pa1 pn1 pc1) t ([]) ∧ (RT.rs (RT.int .i64)).val M a2 (.slice pa2 pn2 pc2) values ([]) ∧ BoxV a2 a4 35 [(.int .i64 a_.1), (.slice pa0 pn0 pc0)] ∧ (RT.os 3 (RT.int .i64)).val M a2 (.slice a5 a6 a7) s75.1 b2 ∧ (RT.os 3 (RT.int .i64)).val M a2 (.slice d2 d3 d4) s115.1 d5) (K := (k_spec_l3Value M w)) ?_ FU ([], 0) o119 _ _ ?_ m3 ?_
   ·rintro s115 o119 a a2 ⟨σ, c9, d0, d1, e0, rfl, hC, hO, h0, h1, h2, a0, a1, d6⟩ hs
    refine c_seq ?_
    refine c_sr ?_
    refine pl_val (.int .i64 s115.2) (y_move rfl) ?_
    refine pl_val (.pointer (some ⟨a4, 1, none⟩)) (y_faddr rfl Fa35x1) ?_
    refine pl_val (.slice pa0 pn0 pc0) (y_load rfl ((box_load Ag33 Sz33 a0 [(.int .i64 a_.1)] [(.slice pa0 pn0 pc0)] [] rfl rfl (fun _ => rfl)) _ (Chg.refl _ _))) ?_
    refine pl_val (.int .i64 (w64 ((-1) - x98))) (y_move rfl) ?_
    obtain ⟨x125, m4, hs⟩ := bind_some hs
    obtain ⟨i5, i6, m5, m6⟩ := rs_idx Sl33 Sz89 h0 m4
    refine pl_val (.pointer (some ⟨i5, i6, none⟩)) (m5 _ _ _ _ _ _ _ _ _ rfl rfl) ?_
    obtain ⟨m7, _⟩ := pr_at m6
    refine pl_val (.pointer (some ⟨i5, i6 + 0, none⟩)) (y_faddr rfl Fa89x0) ?_
    refine pl_val (.int .i64 x125.1) (y_load rfl ((at_load_int Ag3 Sz3 m7) _ (Chg.refl _ _))) ?_
    refine pl_val (.bool (decide (s115.2 < x125.1))) (y_lss rfl rfl) ?_
    refine c_nil ?_
    rcases bif_some hs with ⟨f5, hs⟩ | ⟨f5, hs⟩
    ·refine c_condT (congrArg Value.bool f5) ?_
     refine wp_skip ?_
     refine c_seq ?_
     refine wp_block ?_
     refine c_region ?_
     refine pl_val (.slice c9 d0 d1) (y_move rfl) ?_
     refine pl_val (.slice a5 a6 a7) (y_move rfl) ?_
     refine pl_val (.slice a5 a6 a7) (y_move rfl) ?_
     refine pl_val (.int .i64 (s75.1.length : Int)) (y_len' Sl43 (os_len a1) rfl) ?_
     refine pl_val (.int .i64 (w64 ((s75.1.length : Int) - 1))) (y_sub rfl rfl) ?_
     refine pl_val (.int .i64 s115.2) (y_move rfl) ?_
     refine pl_val (.int .i64 (w64 ((w64 ((s75.1.length : Int) - 1)) - s115.2))) (y_sub rfl rfl) ?_
     obtain ⟨x129, m8, hs⟩ := bind_some hs
     obtain ⟨m9, q0, q1, q2, n0, f6, q3⟩ := os_idx Sl43 Sz3 a1 m8
     refine pl_val (.pointer (some ⟨m9, 0 + Int.toNat (w64 ((w64 ((s75.1.length : Int) - 1)) - s115.2)) * 1, none⟩)) (n0 _ _ _ _ _ _ _ _ _ rfl rfl) ?_
     refine pl_val (.int .i64 x129) (y_load rfl ((at_load_int Ag3 Sz3 f6) _ (Chg.refl _ _))) ?_
     obtain ⟨i7, f7, n1, i9, b4, j0⟩ := new_block a2 [(.int .i64 x129)] 3
     refine pl_val (w' := i7) (.slice (some ⟨f7, 0, none⟩) 1 1) (y_bslice rfl (by rw [n1, i9]; kernel_rfl)) ?_
     have h0 := h0.ext b4
     have h1 := h1.ext b4
     have h2 := h2.ext b4
     have a0 := a0.cn b4
     have a1 := a1.ext b4
     have d6 := d6.ext b4
     have f6 := at_ext f6 b4
     have hC := hC.ext b4
     have hO := hO.new1 b4 i9 j0.lt
     have f8 := os_of_box (r := (RT.int .i64)) (M := M) (css := [[(.int .i64 x129)]]) (fps := [([] : List Nat)]) (xs := ([x129] : List Int)) j0 ⟨⟨rfl, rfl⟩, trivial⟩ (Nat.le_of_ble_eq_true rfl) (List.nodup_cons.2 ⟨(fun h => nomatch h), List.nodup_nil⟩)
     have f8 : (RT.os 3 (RT.int .i64)).val M i7 (.slice (some ⟨f7, 0, none⟩) 1 1) [x129] [f7] := f8
     obtain ⟨y134, n2, hs⟩ := bind_some hs
     have hO := hO.fr1
     obtain ⟨f9, g0, g1, n3, n4, n5, c1, n6, g2⟩ := app_os Rw43 n2 d6 f8 hO.inM (fun g hg hq => hO.apart g hq (mem_l hg))
     have c6 := os_block d6
     refine pl_val (w' := n3) (.slice f9 g0 g1) (y_append rfl rfl (n5 _)) ?_
     have hO := hO.fr1
     have hO := hO.fr1
     have h0 := h0.mt c1 hO c6
     have h1 := h1.mt c1 hO c6
     have h2 := h2.mt c1 hO c6
     have a0 := a0.ap c1 hO c6 (mem_r (mem_r (mem_l (List.mem_singleton.2 rfl))))
     have a1 := a1.ma c1 hO c6 (fun _ e => (mem_r (mem_l (e))))
     have hC := hC.st c1 hO c6
     have hO := hO.eat c1 n6 (os_nodup g2) g2.fpl
     refine pl_val (.slice f9 g0 g1) (y_assign rfl) ?_
     refine c_nil ?_
     refine c_region ?_
     refine pl_val (.int .i64 s115.2) (y_move rfl) ?_
     refine pl_val (.int .i64 (w64 (s115.2 + 1))) (y_add rfl rfl) ?_
     refine pl_val (.int .i64 (w64 (s115.2 + 1))) (y_assign rfl) ?_
     refine c_nil ?_
     cases hs
     have hO := hO.fr2
     have hO := hO.fr2
     have hO := hO.fr2
     exact ⟨_, f9, g0, g1, n4, fr_ovl 79 ⟨rfl, rfl, rfl, rfl, rfl, rfl, rfl, rfl, trivial⟩, hC, hO, h0, h1, h2, a0, a1, g2⟩
    refine c_condF (congrArg Value.bool f5) ?_
    refine wp_exit ?_
    cases hs
    have hO := hO.fr2
    have hO := hO.fr2
    have hO := hO.fr2
    exact ⟨rfl, _, c9, d0, d1, e0, fr_ovl 79 ⟨rfl, rfl, rfl, rfl, rfl, rfl, rfl, trivial⟩, hC, hO, h0, h1, h2, a0, a1, d6⟩
   ·skip
    have hO := hO.fr2
    have hO := hO.fr2
    have hO := hO.fr2
    exact ⟨_, (some ⟨c5, 0, none⟩), 0, 0, ([c5]), fr_ovl 79 ⟨rfl, rfl, rfl, rfl, rfl, rfl, rfl, rfl, trivial⟩, hC, hO, h0, h1, h2, a0, a1, f4⟩
   cases o119 with
   | nx _ => exact True.intro
   | rt r_ =>
    have hs := after_rt hs
    intro g3 h3 hK
    cases hs
    exact hK
   | br s115 =>
    have hs := after_br hs
    rintro g3 a2 ⟨σ, d2, d3, d4, d5, rfl, hC, hO, h0, h1, h2, a0, a1, a9⟩
    refine x_start [13] Mx rfl ?_
    have b5 := Chg.drew a2
    generalize World.drew a2 = n7 at b5 ⊢
    have h0 := h0.ext b5
    have h1 := h1.ext b5
    have h2 := h2.ext b5
    have a0 := a0.cn b5
    have a1 := a1.ext b5
    have a9 := a9.ext b5
    have hC := hC.ext b5
    have hO := hO.ext b5
    have hS := Chg.refl [] n7
    refine x_p 0 (.slice a5 a6 a7) rfl (by kernel_rfl)  (fun _ => y_move rfl) (fun _ => hS) ?_
    refine x_p 1 (.slice a5 a6 a7) rfl (by kernel_rfl)  (fun _ => y_move rfl) (fun _ => hS) ?_
    refine x_p 2 (.int .i64 (s75.1.length : Int)) rfl (by kernel_rfl)  (fun _ => y_len' Sl43 (os_len a1) rfl) (fun _ => hS) ?_
    refine x_p 3 (.slice d2 d3 d4) rfl (by kernel_rfl)  (fun _ => y_move rfl) (fun _ => hS) ?_
    refine x_p 4 (.int .i64 (s115.1.length : Int)) rfl (by kernel_rfl)  (fun _ => y_len' Sl43 (os_len a9) rfl) (fun _ => hS) ?_
    refine x_p 5 (.int .i64 (w64 ((s75.1.length : Int) - (s115.1.length : Int)))) rfl (by kernel_rfl)  (fun _ => y_sub rfl rfl) (fun _ => hS) ?_
    obtain ⟨y138, n8, hs⟩ := bind_some hs
    obtain ⟨n9, o0, o1, b6, q4, o2, q5⟩ := rs_part Try.underlying43 Sz3 (((Frz.os Frz.int)).val a1 (M' := (Less M b2)) Less.sub Less.not) n8
    refine x_p 6 (.slice n9 o0 o1) rfl (by kernel_rfl)  (fun _ => y_slice rfl rfl rfl (o2 rfl _)) (fun _ => hS) ?_
    refine x_l 8 (.agg #[(.int .i64 a_.1), (.slice pa0 pn0 pc0)]) rfl (by kernel_rfl)  (fun w' hw' => y_load rfl ((box_load Ag35 Sz35 a0 [] [(.int .i64 a_.1), (.slice pa0 pn0 pc0)] [] rfl rfl (fun h => nomatch h)) w' hw')) hS ?_
    refine x_p 9 (.int .i64 (w64 ((-1) - x98))) rfl (by kernel_rfl)  (fun _ => y_move rfl) (fun _ => hS) ?_
    refine x_p 10 (.slice d2 d3 d4) rfl (by kernel_rfl)  (fun _ => y_move rfl) (fun _ => hS) ?_
    refine x_one (i := 7) (by kernel_rfl) ?_
    have hO := hO.fr1
    obtain ⟨r141, o3, hs⟩ := bind_some hs
    refine xk_call (b := false) rfl  Bd54 rfl (c_spec_l1Own (M := (Less M b2)) y138 b6 hO.less.fut o3) rfl (by rintro _ _ _ ⟨o4, o5, o6, j1, rfl, b0, b7, j2⟩; exact hS.ext b0) ?_
    rintro _ q6 ⟨o4, o5, o6, j1, rfl, b0, b7, j2⟩
    have h0 := h0.ext b0
    have h1 := h1.ext b0
    have h2 := h2.ext b0
    have a0 := a0.cn b0
    have a1 := a1.ext b0
    have a9 := a9.ext b0
    have b6 := b6.ext b0
    have hC := hC.ext b0
    have hO := Own.join0 hO b0 j2
    have hO := hO.perm (R := j1 ++ (b2 ++ (d5 ++ (([a4]) ++ ([]))))) (by simp)
    have b7 := b7.free (M' := M) (Free.os Free.int)
    have hS := hS.ext b0
    refine x_one (i := 11) (by kernel_rfl) ?_
    have hO := hO.fr2
    obtain ⟨r144, o7, hs⟩ := bind_some hs
    refine xk_call (b := false) rfl  Bd109 rfl (c_spec_l2Value (M := (Less M d5)) (a_.1, a_.2) (w64 ((-1) - x98)) s115.1 (h0.sub Less.sub) (((Frz.os Frz.int)).val a9 Less.sub Less.not) hO.less.fut o7) rfl (by rintro _ _ _ ⟨rfl, a8⟩; exact hS.ext a8) ?_
    rintro _ o8 ⟨rfl, a8⟩
    have h0 := h0.ext a8
    have h1 := h1.ext a8
    have h2 := h2.ext a8
    have a0 := a0.cn a8
    have a1 := a1.ext a8
    have a9 := a9.ext a8
    have b6 := b6.ext a8
    have b7 := b7.ext a8
    have hC := hC.ext a8
    have hO := hO.ext a8
    have hS := hS.ext a8
    refine x_one (i := 12) (by kernel_rfl) ?_
    obtain ⟨j3, g4, o9, j4, b1, j5⟩ := new_block o8 [(.int .i64 r144)] 3
    refine xk_val (w' := j3) (b := false) (.slice (some ⟨g4, 0, none⟩) 1 1) rfl  (y_bslice rfl (by rw [o9, j4]; kernel_rfl)) rfl (fun _ => hS.ext b1) ?_
    have h0 := h0.ext b1
    have h1 := h1.ext b1
    have h2 := h2.ext b1
    have a0 := a0.cn b1
    have a1 := a1.ext b1
    have a9 := a9.ext b1
    have b6 := b6.ext b1
    have b7 := b7.ext b1
    have hC := hC.ext b1
    have hO := hO.new1 b1 j4 j5.lt
    have g5 := os_of_box (r := (RT.int .i64)) (M := M) (css := [[(.int .i64 r144)]]) (fps := [([] : List Nat)]) (xs := ([r144] : List Int)) j5 ⟨⟨rfl, rfl⟩, trivial⟩ (Nat.le_of_ble_eq_true rfl) (List.nodup_cons.2 ⟨(fun h => nomatch h), List.nodup_nil⟩)
    have g5 : (RT.os 3 (RT.int .i64)).val M j3 (.slice (some ⟨g4, 0, none⟩) 1 1) [r144] [g4] := g5
    have hS := hS.ext b1
    refine x_one (i := 13) (by kernel_rfl) ?_
    obtain ⟨y148, p0, hs⟩ := bind_some hs
    have hO := hO.fr2
    obtain ⟨g6, g7, g8, p1, p2, p3, b8, p4, g9⟩ := app_os Rw43 p0 b7 g5 hO.inM (fun g hg hq => hO.apart g hq (mem_l hg))
    have b9 := os_block b7
    refine xk_val (w' := p1) (b := true) (.slice g6 g7 g8) rfl  (y_append rfl rfl (p3 _)) rfl (fun h => nomatch h) ?_
    have hO := hO.fr1
    have hO := hO.fr1
    have h0 := h0.mt b8 hO b9
    have h1 := h1.mt b8 hO b9
    have h2 := h2.mt b8 hO b9
    have a0 := a0.ap b8 hO b9 (mem_r (mem_r (mem_r (mem_l (List.mem_singleton.2 rfl)))))
    have a1 := a1.ma b8 hO b9 (fun _ e => (mem_r (mem_r (mem_l (e)))))
    have a9 := a9.ma b8 hO b9 (fun _ e => (mem_r (mem_l (e))))
    have b6 := b6.mut b8 (fun g hg => ⟨hO.inM g (b9 g hg), fun e => hO.apart g (b9 g hg) (mem_r (mem_r (mem_l (e))))⟩) (fun _ _ h => nomatch h)
    have hC := hC.st b8 hO b9
    have hO := hO.eat b8 p4 (os_nodup g9) g9.fpl
    refine x_p 14 (.slice g6 g7 g8) rfl (by kernel_rfl)  (fun _ => y_assign rfl) (fun h => nomatch h) ?_
    refine x_end (by kernel_rfl) ?_
    clear hS
    refine c_region ?_
    refine pl_val (.int .i64 s75.2) (y_move rfl) ?_
    refine pl_val (.int .i64 (w64 (s75.2 - 1))) (y_sub rfl rfl) ?_
    refine pl_val (.int .i64 (w64 (s75.2 - 1))) (y_assign rfl) ?_
    refine c_nil ?_
    cases hs
    have hO := hO.fr1
    have hO := hO.drop
    have hO := hO.fr1
    have hO := hO.drop
    have hO := hO.fr1
    have hO := hO.fr1
    exact ⟨_, g6, g7, g8, p2, fr_ovl 79 ⟨rfl, rfl, rfl, rfl, rfl, trivial⟩, hC, hO, h0, h1, h2, a0, g9⟩
  refine c_condF (congrArg Value.bool e3) ?_
  refine wp_exit ?_
  cases hs
  have hO := hO.fr1
  have hO := hO.fr1
  exact ⟨rfl, _, a5, a6, a7, b2, fr_ovl 79 ⟨rfl, trivial⟩, hC, hO, h0, h1, h2, a0, a1⟩
 ·skip
  have hO := hO.fr1
  have hO := hO.fr1
  exact ⟨_, (some ⟨c2, 0, none⟩), 0, 0, ([c2]), fr_ovl 79 ⟨rfl, rfl, rfl, rfl, rfl, trivial⟩, hC, hO, h0, h1, h2, a0, e1⟩
 cases o79 with
 | nx _ => exact True.intro
 | rt r_ =>
  have hs := after_rt hs
  intro g3 h3 hK
  cases hs
  exact hK
 | br s75 =>
  have hs := after_br hs
  rintro g3 a3 ⟨σ, d7, d8, d9, e2, rfl, hC, hO, h0, h1, h2, a0, p5⟩
  refine c_sr ?_
  refine pl_val (.slice d7 d8 d9) (y_move rfl) ?_
  obtain ⟨x150, p6, hs⟩ := bind_some hs
  obtain ⟨p7, q7, q8, q9, p8, p9, r0⟩ := os_idx Sl43 Sz3 p5 p6
  refine pl_val (.pointer (some ⟨p7, 0 + Int.toNat 0 * 1, none⟩)) (p8 _ _ _ _ _ _ _ _ _ rfl rfl) ?_
  refine pl_val (.int .i64 x150) (y_load rfl ((at_load_int Ag3 Sz3 p9) _ (Chg.refl _ _))) ?_
  refine pl_val (.int .i64 x150) (y_assign rfl) ?_
  refine c_nil ?_
  refine wp_ret ?_
  cases hs
  exact ⟨_, fr_ovl 79 ⟨rfl, trivial⟩, hC⟩

theorem Bd86 : Bodied Try.prog 86 := bodied Try.func86 (by kernel_rfl) rfl

def k_spec_l11Of (M : Nat → Prop) (w0 : World) (r : (List Int)) (a : Act) (w : World) : Prop :=
  ∃ (σ : Nat → Value) (ra0 : Option Addr) (rn0 rc0 : Nat) (rf0 : List Nat), a = fr 30 (ovl σ [(6, (.slice ra0 rn0 rc0))]) ∧ Chg [] w0 w ∧ (RT.os 3 (RT.int .i64)).val M w (.slice ra0 rn0 rc0) r rf0 ∧ Own (Nw w0 []) (fun _ => True) w (rf0 ++ ([]))
def s_spec_l11Of (a_ : Int × (List (Int × (List Int)))) (k : Int) (t : List Int) : Option ((List Int)) :=
  (iter (S := (List Int) × Int) (R := (List Int)) (fun s22 =>
  (s_spec_l2Pow a_.1 k).bind fun r33 =>
  (bif (decide (s22.2 < r33)) then (s_spec_l2Args a_.1 k s22.2).bind fun r37 =>
  (s_spec_l3Value (a_.1, a_.2) t r37).bind fun r40 =>
  (app s22.1 ([r40])).bind fun y44 =>
  some (.nx (y44, w64 (s22.2 + 1))) else some (.br (s22.1, s22.2)))) FU ([], 0)).bind fun o26 => after o26 (fun r_ => some r_) (fun s22 =>
  some s22.1)
set_option maxHeartbeats 4000000 in
theorem c_spec_l11Of {M : Nat → Prop} {w : World} {pa0 : Option Addr} {pn0 pc0 : Nat} {pa1 : Option Addr} {pn1 pc1 : Nat} (a_ : Int × (List (Int × (List Int)))) (k : Int) (t : List Int) (h0 : (RT.rs (RT.pr (RT.int .i64) (RT.rs (RT.int .i64)))).val M w (.slice pa0 pn0 pc0) a_.2 ([])) (h1 : (RT.rs (RT.int .i64)).val M w (.slice pa1 pn1 pc1) t ([])) (hM : ∀ g, w.heap.size ≤ g → M g) {r : (List Int)} (hs : s_spec_l11Of a_ k t = some r) :
    Gives Try.prog 47 [(.agg #[(.int .i64 a_.1), (.slice pa0 pn0 pc0)]), (.int .i64 k), (.slice pa1 pn1 pc1)] w (fun v w' => ∃ (ra0 : Option Addr) (rn0 rc0 : Nat) (rf0 : List Nat), v = (.slice ra0 rn0 rc0) ∧ Chg [] w w' ∧ (RT.os 3 (RT.int .i64)).val M w' (.slice ra0 rn0 rc0) r rf0 ∧ Own (Nw w []) (fun _ => True) w' (rf0 ++ ([]))) := by
 refine calls_fr Try.func47 rfl Try.ntmps47 (Nat.le_of_ble_eq_true rfl) ?_
 have hO := Own.start (N := Nw w []) hM Nw.fut
 have hC := Chg.refl [] w
 unfold s_spec_l11Of at hs
 refine wp_mono (Q := KPost (k_spec_l11Of M w r)) ?_ (fun e a e2 h => ?_)
 rotate_left
 ·cases e
  case ret =>
   obtain ⟨σ, ra0, rn0, rc0, rf0, rfl, hrest⟩ := h
   exact ret1x Try.results47 (res_tmp rfl) ⟨ra0, rn0, rc0, rf0, rfl, hrest⟩
  all_goals exact (h : False).elim
 refine c_sr ?_
 obtain ⟨d2, a4, e3, d3, c1, a0⟩ := new_block w [(.int .i64 a_.1), (.slice pa0 pn0 pc0)] 35
 refine pl_val (w' := d2) (.pointer (some ⟨a4, 0, none⟩)) (y_box rfl (by rw [e3, d3]; kernel_rfl)) ?_
 have h0 := h0.ext c1
 have h1 := h1.ext c1
 have hC := hC.ext c1
 have hO := hO.new1 c1 d3 a0.lt
 refine pl_val (.slice none 0 0) (y_assign rfl) ?_
 refine c_nil ?_
 refine c_sr ?_
 obtain ⟨d4, a9, e4, d5, b5, d6⟩ := new_block d2 [] 3
 refine pl_val (w' := d4) (.slice (some ⟨a9, 0, none⟩) 0 0) (y_bslice rfl (by rw [e4, d5]; kernel_rfl)) ?_
 have h0 := h0.ext b5
 have h1 := h1.ext b5
 have a0 := a0.cn b5
 have hC := hC.ext b5
 have hO := hO.new1 b5 d5 d6.lt
 have c3 := os_of_box (r := (RT.int .i64)) (M := M) (css := []) (fps := []) (xs := ([] : List Int)) d6 trivial (Nat.zero_le _) (List.nodup_cons.2 ⟨(fun h => nomatch h), List.nodup_nil⟩)
 have c3 : (RT.os 3 (RT.int .i64)).val M d4 (.slice (some ⟨a9, 0, none⟩) 0 0) [] [a9] := c3
 refine pl_val (.slice (some ⟨a9, 0, none⟩) 0 0) (y_assign rfl) ?_
 refine c_nil ?_
 refine c_seq ?_
 refine c_sr ?_
 refine pl_val (.int .i64 0) (y_assign rfl) ?_
 refine c_nil ?_
 obtain ⟨o26, e5, hs⟩ := bind_some hs
 refine wp_block ?_
 refine wp_iter (id := 0) (I := fun s22 a a1 => ∃ (σ : Nat → Value) (b6 : Option Addr) (b7 : Nat) (b8 : Nat) (b9 : List Nat), a = fr 30 (ovl σ [(1, (.int .i64 k)), (2, (.slice pa1 pn1 pc1)), (3, (.pointer (some ⟨a4, 0, none⟩))), (7, (.slice b6 b7 b8)), (8, (.int .i64 s22.2))]) ∧ Chg [] w a1 ∧ Own (Nw w []) M a1 (b9 ++ (([a4]) ++ [])) ∧ (RT.rs (RT.pr (RT.int .i64) (RT.rs (RT.int .i64)))).val M a1 (.slice pa0 pn0 pc0) a_.2 ([]) ∧ (RT.rs (RT.int .i64)).val M a1 (.slice pa1 pn1 pc1) t ([]) ∧ BoxV a1 a4 35 [(.int .i64 a_.1), (.slice pa0 pn0 pc0)] ∧ (RT.os 3 (RT.int .i64)).val M a1 (.slice b6 b7 b8) s22.1 b9) (J := fun s22 a a1 => ∃ (σ : Nat → Value) (b0 : Option Addr) (b1 : Nat) (b2 : Nat) (c2 : List Nat), a = fr 30 (ovl σ [(7, (.slice b0 b1 b2))]) ∧ Chg [] w a1 ∧ Own (Nw w []) M a1 (c2 ++ (([a4]) ++ [])) ∧ (RT.rs (RT.pr (RT.int .i64) (RT.rs (RT.int .i64)))).val M a1 (.slice pa0 pn0 pc0) a_.2 ([]) ∧ (RT.rs (RT.int .i64)).val M a1 (.slice pa1 pn1 pc1) t ([]) ∧ BoxV a1 a4 35 [(.int .i64 a_.1), (.slice pa0 pn0 pc0)] ∧ (RT.os 3 (RT.int .i64)).val M a1 (.slice b0 b1 b2) s22.1 c2) (K := (k_spec_l11Of M w)) ?_ FU ([], 0) o26 _ _ ?_ e5 ?_
 ·rintro s22 o26 a a1 ⟨σ, b6, b7, b8, b9, rfl, hC, hO, h0, h1, a0, a2⟩ hs
  refine c_seq ?_
  refine c_sr ?_
  refine pl_val (.int .i64 s22.2) (y_move rfl) ?_
  refine pl_val (.pointer (some ⟨a4, 0, none⟩)) (y_faddr rfl Fa35x0) ?_
  refine pl_val (.int .i64 a_.1) (y_load rfl ((box_load Ag3 Sz3 a0 [] [(.int .i64 a_.1)] [(.slice pa0 pn0 pc0)] rfl rfl (fun _ => rfl)) _ (Chg.refl _ _))) ?_
  refine pl_val (.int .i64 k) (y_move rfl) ?_
  obtain ⟨r33, e6, hs⟩ := bind_some hs
  refine pl_call Bd81 rfl (c_spec_l2Pow (M := M) a_.1 k  hO.fut e6) ?_
  rintro _ d7 ⟨rfl, b3⟩
  have h0 := h0.ext b3
  have h1 := h1.ext b3
  have a0 := a0.cn b3
  have a2 := a2.ext b3
  have hC := hC.ext b3
  have hO := hO.ext b3
  refine pl_val (.bool (decide (s22.2 < r33))) (y_lss rfl rfl) ?_
  refine c_nil ?_
  rcases bif_some hs with ⟨c4, hs⟩ | ⟨c4, hs⟩
  ·refine c_condT (congrArg Value.bool c4) ?_
   refine wp_skip ?_
   refine c_seq ?_
   refine wp_block ?_
   refine x_start [10] Mx rfl ?_
   have a8 := Chg.drew d7
   generalize World.drew d7 = e7 at a8 ⊢
   have h0 := h0.ext a8
   have h1 := h1.ext a8
   have a0 := a0.cn a8
   have a2 := a2.ext a8
   have hC := hC.ext a8
   have hO := hO.ext a8
   have hS := Chg.refl [] e7
   refine x_p 0 (.slice b6 b7 b8) rfl (by kernel_rfl)  (fun _ => y_move rfl) (fun _ => hS) ?_
   refine x_l 1 (.agg #[(.int .i64 a_.1), (.slice pa0 pn0 pc0)]) rfl (by kernel_rfl)  (fun w' hw' => y_load rfl ((box_load Ag35 Sz35 a0 [] [(.int .i64 a_.1), (.slice pa0 pn0 pc0)] [] rfl rfl (fun h => nomatch h)) w' hw')) hS ?_
   refine x_p 2 (.slice pa1 pn1 pc1) rfl (by kernel_rfl)  (fun _ => y_move rfl) (fun _ => hS) ?_
   refine x_p 3 (.pointer (some ⟨a4, 0, none⟩)) rfl (by kernel_rfl)  (fun _ => y_faddr rfl Fa35x0) (fun _ => hS) ?_
   refine x_l 4 (.int .i64 a_.1) rfl (by kernel_rfl)  (fun w' hw' => y_load rfl ((box_load Ag3 Sz3 a0 [] [(.int .i64 a_.1)] [(.slice pa0 pn0 pc0)] rfl rfl (fun _ => rfl)) w' hw')) hS ?_
   refine x_p 5 (.int .i64 k) rfl (by kernel_rfl)  (fun _ => y_move rfl) (fun _ => hS) ?_
   refine x_p 6 (.int .i64 s22.2) rfl (by kernel_rfl)  (fun _ => y_move rfl) (fun _ => hS) ?_
   refine x_one (i := 7) (by kernel_rfl) ?_
   obtain ⟨r37, e8, hs⟩ := bind_some hs
   refine xk_call (b := false) rfl  Bd87 rfl (c_spec_l2Args (M := M) a_.1 k s22.2  hO.fut e8) rfl (by rintro _ _ _ ⟨e9, f0, f1, c5, rfl, a5, a7, d8⟩; exact hS.ext a5) ?_
   rintro _ g2 ⟨e9, f0, f1, c5, rfl, a5, a7, d8⟩
   have h0 := h0.ext a5
   have h1 := h1.ext a5
   have a0 := a0.cn a5
   have a2 := a2.ext a5
   have hC := hC.ext a5
   have hO := Own.join0 hO a5 d8
   have hO := hO.perm (R := c5 ++ (b9 ++ (([a4]) ++ ([])))) (by simp)
   have hS := hS.ext a5
   refine x_one (i := 8) (by kernel_rfl) ?_
   obtain ⟨r40, f2, hs⟩ := bind_some hs
   refine xk_call (b := false) rfl  Bd86 rfl (c_spec_l3Value (M := (Less M c5)) (a_.1, a_.2) t r37 (h0.sub Less.sub) (h1.sub Less.sub) (((Frz.os Frz.int)).val a7 Less.sub Less.not) hO.less.fut f2) rfl (by rintro _ _ _ ⟨rfl, a3⟩; exact hS.ext a3) ?_
   rintro _ f3 ⟨rfl, a3⟩
   have h0 := h0.ext a3
   have h1 := h1.ext a3
   have a0 := a0.cn a3
   have a2 := a2.ext a3
   have a7 := a7.ext a3
   have hC := hC.ext a3
   have hO := hO.ext a3
   have hS := hS.ext a3
   refine x_one (i := 9) (by kernel_rfl) ?_
   obtain ⟨d9, c6, f4, e0, a6, e1⟩ := new_block f3 [(.int .i64 r40)] 3
   refine xk_val (w' := d9) (b := false) (.slice (some ⟨c6, 0, none⟩) 1 1) rfl  (y_bslice rfl (by rw [f4, e0]; kernel_rfl)) rfl (fun _ => hS.ext a6) ?_
   have h0 := h0.ext a6
   have h1 := h1.ext a6
   have a0 := a0.cn a6
   have a2 := a2.ext a6
   have a7 := a7.ext a6
   have hC := hC.ext a6
   have hO := hO.new1 a6 e0 e1.lt
   have c7 := os_of_box (r := (RT.int .i64)) (M := M) (css := [[(.int .i64 r40)]]) (fps := [([] : List Nat)]) (xs := ([r40] : List Int)) e1 ⟨⟨rfl, rfl⟩, trivial⟩ (Nat.le_of_ble_eq_true rfl) (List.nodup_cons.2 ⟨(fun h => nomatch h), List.nodup_nil⟩)
   have c7 : (RT.os 3 (RT.int .i64)).val M d9 (.slice (some ⟨c6, 0, none⟩) 1 1) [r40] [c6] := c7
   have hS := hS.ext a6
   refine x_one (i := 10) (by kernel_rfl) ?_
   obtain ⟨y44, f5, hs⟩ := bind_some hs
   have hO := hO.fr2
   obtain ⟨c8, c9, d0, f6, f7, f8, b4, f9, d1⟩ := app_os Rw43 f5 a2 c7 hO.inM (fun g hg hq => hO.apart g hq (mem_l hg))
   have c0 := os_block a2
   refine xk_val (w' := f6) (b := true) (.slice c8 c9 d0) rfl  (y_append rfl rfl (f8 _)) rfl (fun h => nomatch h) ?_
   have hO := hO.fr1
   have hO := hO.fr1
   have h0 := h0.mt b4 hO c0
   have h1 := h1.mt b4 hO c0
   have a0 := a0.ap b4 hO c0 (mem_r (mem_r (mem_l (List.mem_singleton.2 rfl))))
   have a7 := a7.ma b4 hO c0 (fun _ e => (mem_r (mem_l (e))))
   have hC := hC.st b4 hO c0
   have hO := hO.eat b4 f9 (os_nodup d1) d1.fpl
   refine x_p 11 (.slice c8 c9 d0) rfl (by kernel_rfl)  (fun _ => y_assign rfl) (fun h => nomatch h) ?_
   refine x_end (by kernel_rfl) ?_
   clear hS
   refine c_region ?_
   refine pl_val (.int .i64 s22.2) (y_move rfl) ?_
   refine pl_val (.int .i64 (w64 (s22.2 + 1))) (y_add rfl rfl) ?_
   refine pl_val (.int .i64 (w64 (s22.2 + 1))) (y_assign rfl) ?_
   refine c_nil ?_
   cases hs
   have hO := hO.fr1
   have hO := hO.drop
   have hO := hO.fr1
   have hO := hO.fr1
   exact ⟨_, c8, c9, d0, f7, fr_ovl 30 ⟨rfl, rfl, rfl, rfl, rfl, trivial⟩, hC, hO, h0, h1, a0, d1⟩
  refine c_condF (congrArg Value.bool c4) ?_
  refine wp_exit ?_
  cases hs
  have hO := hO.fr1
  have hO := hO.fr1
  exact ⟨rfl, _, b6, b7, b8, b9, fr_ovl 30 ⟨rfl, trivial⟩, hC, hO, h0, h1, a0, a2⟩
 ·skip
  have hO := hO.fr1
  have hO := hO.fr1
  exact ⟨_, (some ⟨a9, 0, none⟩), 0, 0, ([a9]), fr_ovl 30 ⟨rfl, rfl, rfl, rfl, rfl, trivial⟩, hC, hO, h0, h1, a0, c3⟩
 cases o26 with
 | nx _ => exact True.intro
 | rt r_ =>
  have hs := after_rt hs
  intro g0 e2 hK
  cases hs
  exact hK
 | br s22 =>
  have hs := after_br hs
  rintro g0 a1 ⟨σ, b0, b1, b2, c2, rfl, hC, hO, h0, h1, a0, g1⟩
  refine c_sr ?_
  refine pl_val (.slice b0 b1 b2) (y_move rfl) ?_
  refine pl_val (.slice b0 b1 b2) (y_assign rfl) ?_
  refine c_nil ?_
  refine wp_ret ?_
  cases hs
  have hO := hO.fr1
  have hO := hO.drop
  exact ⟨_, b0, b1, b2, c2, fr_ovl 30 ⟨rfl, trivial⟩, hC, g1, hO.top⟩

theorem Bd44 : Bodied Try.prog 44 := bodied Try.func44 (by kernel_rfl) rfl

theorem Bd45 : Bodied Try.prog 45 := bodied Try.func45 (by kernel_rfl) rfl

theorem Bd47 : Bodied Try.prog 47 := bodied Try.func47 (by kernel_rfl) rfl

def k_spec_AreEqualTerms (M : Nat → Prop) (w0 : World) (r : Bool × Bool) (a : Act) (w : World) : Prop :=
  ∃ (σ : Nat → Value) , a = fr 43 (ovl σ [(8, (.bool r.1)), (9, (.bool r.2))]) ∧ Chg [] w0 w
def s_spec_AreEqualTerms (a_ : Int × (List (Int × (List Int)))) (k : Int) (s_ : List Int) (t : List Int) : Option (Bool × Bool) :=
  (s_spec_l11Free (a_.1, a_.2) k).bind fun r6 =>
  ((bif (!r6.2) then some true else (s_spec_l11Term (a_.1, a_.2) k s_).bind fun r13 =>
  (bif (!r13) then some true else (s_spec_l11Term (a_.1, a_.2) k t).bind fun r16 =>
  some (!r16)))).bind fun s8 =>
  (bif s8 then some (false, false) else (s_spec_l11Of (a_.1, a_.2) k s_).bind fun r20 =>
  (s_spec_l11Of (a_.1, a_.2) k t).bind fun r23 =>
  (s_spec_l1Same r20 r23).bind fun r26 =>
  some (r26, true))
set_option maxHeartbeats 4000000 in
theorem c_spec_AreEqualTerms {M : Nat → Prop} {w : World} {pa0 : Option Addr} {pn0 pc0 : Nat} {pa1 : Option Addr} {pn1 pc1 : Nat} {pa2 : Option Addr} {pn2 pc2 : Nat} (a_ : Int × (List (Int × (List Int)))) (k : Int) (s_ : List Int) (t : List Int) (h0 : (RT.rs (RT.pr (RT.int .i64) (RT.rs (RT.int .i64)))).val M w (.slice pa0 pn0 pc0) a_.2 ([])) (h1 : (RT.rs (RT.int .i64)).val M w (.slice pa1 pn1 pc1) s_ ([])) (h2 : (RT.rs (RT.int .i64)).val M w (.slice pa2 pn2 pc2) t ([])) (hM : ∀ g, w.heap.size ≤ g → M g) {r : Bool × Bool} (hs : s_spec_AreEqualTerms a_ k s_ t = some r) :
    Gives Try.prog 23 [(.agg #[(.int .i64 a_.1), (.slice pa0 pn0 pc0)]), (.int .i64 k), (.slice pa1 pn1 pc1), (.slice pa2 pn2 pc2)] w (fun v w' => v = (.tuple #[(.bool r.1), (.bool r.2)]) ∧ Chg [] w w') := by
 refine calls_fr Try.func23 rfl Try.ntmps23 (Nat.le_of_ble_eq_true rfl) ?_
 have hO := Own.start (N := Nw w []) hM Nw.fut
 have hC := Chg.refl [] w
 unfold s_spec_AreEqualTerms at hs
 refine wp_mono (Q := KPost (k_spec_AreEqualTerms M w r)) ?_ (fun e a e2 h => ?_)
 rotate_left
 ·cases e
  case ret =>
   obtain ⟨σ, rfl, hrest⟩ := h
   exact ret2x Try.results23 (res_tmp rfl) (res_tmp rfl) ⟨rfl, hrest⟩
  all_goals exact (h : False).elim
 refine c_sr ?_
 obtain ⟨a5, b5, c7, c4, b4, a0⟩ := new_block w [(.int .i64 a_.1), (.slice pa0 pn0 pc0)] 35
 refine pl_val (w' := a5) (.pointer (some ⟨b5, 0, none⟩)) (y_box rfl (by rw [c7, c4]; kernel_rfl)) ?_
 have h0 := h0.ext b4
 have h1 := h1.ext b4
 have h2 := h2.ext b4
 have hC := hC.ext b4
 have hO := hO.new1 b4 c4 a0.lt
 refine pl_val (.bool false) (y_assign rfl) ?_
 refine pl_val (.bool false) (y_assign rfl) ?_
 refine c_nil ?_
 refine c_sr ?_
 refine pl_val (.agg #[(.int .i64 a_.1), (.slice pa0 pn0 pc0)]) (y_load rfl ((box_load Ag35 Sz35 a0 [] [(.int .i64 a_.1), (.slice pa0 pn0 pc0)] [] rfl rfl (fun h => nomatch h)) _ (Chg.refl _ _))) ?_
 refine pl_val (.int .i64 k) (y_move rfl) ?_
 obtain ⟨r6, c8, hs⟩ := bind_some hs
 refine pl_call Bd44 rfl (c_spec_l11Free (M := M) (a_.1, a_.2) k h0 hO.fut c8) ?_
 rintro _ a3 ⟨b9, c0, c1, rfl, b1, e3⟩
 have hK := (show Keeps w M (Past M a5 a3) from Keeps.past hC.size)
 have h0 := h0.ext b1
 have h1 := h1.ext b1
 have h2 := h2.ext b1
 have a0 := a0.cn b1
 have hC := hC.ext b1
 have hO := hO.past b1
 have h0 := h0.sub (M' := (Past M a5 a3)) (fun g hg => .inl hg.1)
 have h1 := h1.sub (M' := (Past M a5 a3)) (fun g hg => .inl hg.1)
 have h2 := h2.sub (M' := (Past M a5 a3)) (fun g hg => .inl hg.1)
 refine pl_val (.tuple #[(.slice b9 c0 c1), (.bool r6.2)]) (y_move rfl) ?_
 refine pl_val (.slice b9 c0 c1) (y_extract rfl (by kernel_rfl)) ?_
 refine pl_val (.bool r6.2) (y_extract rfl (by kernel_rfl)) ?_
 refine pl_val (.slice b9 c0 c1) (y_assign rfl) ?_
 refine pl_val (.bool r6.2) (y_assign rfl) ?_
 refine c_nil ?_
 refine c_seq ?_
 refine c_seq ?_
 obtain ⟨s8, c9, hs⟩ := bind_some hs
 refine c_mid (I := fun a b6 => ∃ (σ : Nat → Value), a = fr 43 (ovl σ [(1, (.int .i64 k)), (2, (.slice pa1 pn1 pc1)), (3, (.slice pa2 pn2 pc2)), (4, (.pointer (some ⟨b5, 0, none⟩))), (8, (.bool false)), (9, (.bool false)), (33, (.bool s8))]) ∧ Chg [] a3 b6) ?_ ?_
 ·replace hs := c9
  have hMid := Chg.refl [] a3
  refine c_region ?_
  refine pl_val (.bool r6.2) (y_move rfl) ?_
  refine pl_val (.bool (!r6.2)) (y_not rfl) ?_
  refine pl_val (.bool (!r6.2)) (y_move rfl) ?_
  rcases bif_some hs with ⟨a1, hs⟩ | ⟨a1, hs⟩
  ·skip
   refine pl_not (tg := 20) (by kernel_rfl) (congrArg Value.bool a1) ?_
   refine pl_not (tg := 20) (by kernel_rfl) (congrArg Value.bool a1) ?_
   refine pl_not (tg := 20) (by kernel_rfl) (congrArg Value.bool a1) ?_
   refine pl_not (tg := 20) (by kernel_rfl) (congrArg Value.bool a1) ?_
   refine pl_not (tg := 20) (by kernel_rfl) (congrArg Value.bool a1) ?_
   refine pl_val (.bool true) (y_pick_t (congrArg Value.bool a1) rfl) ?_
   refine pl_val (.bool true) (y_move rfl) ?_
   refine pl_not (tg := 27) (by kernel_rfl) (by rfl) ?_
   refine pl_not (tg := 27) (by kernel_rfl) (by rfl) ?_
   refine pl_not (tg := 27) (by kernel_rfl) (by rfl) ?_
   refine pl_not (tg := 27) (by kernel_rfl) (by rfl) ?_
   refine pl_not (tg := 27) (by kernel_rfl) (by rfl) ?_
   refine pl_val (.bool true) (y_pick_t (by rfl) rfl) ?_
   refine c_nil ?_
   cases hs
   exact ⟨_, fr_ovl 43 ⟨rfl, rfl, rfl, rfl, rfl, rfl, rfl, trivial⟩, hMid⟩
  refine pl_yes (.agg #[(.int .i64 a_.1), (.slice pa0 pn0 pc0)]) (tg := 20) (by kernel_rfl) (congrArg Value.bool a1) (y_load rfl ((box_load Ag35 Sz35 a0 [] [(.int .i64 a_.1), (.slice pa0 pn0 pc0)] [] rfl rfl (fun h => nomatch h)) _ (Chg.refl _ _))) ?_
  refine pl_yes (.int .i64 k) (tg := 20) (by kernel_rfl) (congrArg Value.bool a1) (y_move rfl) ?_
  refine pl_yes (.slice pa1 pn1 pc1) (tg := 20) (by kernel_rfl) (congrArg Value.bool a1) (y_move rfl) ?_
  obtain ⟨r13, d0, hs⟩ := bind_some hs
  refine pl_cally (tg := 20) (by kernel_rfl) (congrArg Value.bool a1) Bd45 rfl (c_spec_l11Term (M := (Past M a5 a3)) (a_.1, a_.2) k s_ h0 h1 hO.fut d0) ?_
  rintro _ e4 ⟨rfl, a8⟩
  have h0 := h0.ext a8
  have h1 := h1.ext a8
  have h2 := h2.ext a8
  have a0 := a0.cn a8
  have hMid := hMid.ext a8
  have hC := hC.ext a8
  have hO := hO.ext a8
  refine pl_yes (.bool (!r13)) (tg := 20) (by kernel_rfl) (congrArg Value.bool a1) (y_not rfl) ?_
  refine pl_val (.bool (!r13)) (y_pick_f (congrArg Value.bool a1) rfl) ?_
  refine pl_val (.bool (!r13)) (y_move rfl) ?_
  rcases bif_some hs with ⟨a2, hs⟩ | ⟨a2, hs⟩
  ·skip
   refine pl_not (tg := 27) (by kernel_rfl) (congrArg Value.bool a2) ?_
   refine pl_not (tg := 27) (by kernel_rfl) (congrArg Value.bool a2) ?_
   refine pl_not (tg := 27) (by kernel_rfl) (congrArg Value.bool a2) ?_
   refine pl_not (tg := 27) (by kernel_rfl) (congrArg Value.bool a2) ?_
   refine pl_not (tg := 27) (by kernel_rfl) (congrArg Value.bool a2) ?_
   refine pl_val (.bool true) (y_pick_t (congrArg Value.bool a2) rfl) ?_
   refine c_nil ?_
   cases hs
   exact ⟨_, fr_ovl 43 ⟨rfl, rfl, rfl, rfl, rfl, rfl, rfl, trivial⟩, hMid⟩
  refine pl_yes (.agg #[(.int .i64 a_.1), (.slice pa0 pn0 pc0)]) (tg := 27) (by kernel_rfl) (congrArg Value.bool a2) (y_load rfl ((box_load Ag35 Sz35 a0 [] [(.int .i64 a_.1), (.slice pa0 pn0 pc0)] [] rfl rfl (fun h => nomatch h)) _ (Chg.refl _ _))) ?_
  refine pl_yes (.int .i64 k) (tg := 27) (by kernel_rfl) (congrArg Value.bool a2) (y_move rfl) ?_
  refine pl_yes (.slice pa2 pn2 pc2) (tg := 27) (by kernel_rfl) (congrArg Value.bool a2) (y_move rfl) ?_
  obtain ⟨r16, d1, hs⟩ := bind_some hs
  refine pl_cally (tg := 27) (by kernel_rfl) (congrArg Value.bool a2) Bd45 rfl (c_spec_l11Term (M := (Past M a5 a3)) (a_.1, a_.2) k t h0 h2 hO.fut d1) ?_
  rintro _ e5 ⟨rfl, a9⟩
  have h0 := h0.ext a9
  have h1 := h1.ext a9
  have h2 := h2.ext a9
  have a0 := a0.cn a9
  have hMid := hMid.ext a9
  have hC := hC.ext a9
  have hO := hO.ext a9
  refine pl_yes (.bool (!r16)) (tg := 27) (by kernel_rfl) (congrArg Value.bool a2) (y_not rfl) ?_
  refine pl_val (.bool (!r16)) (y_pick_f (congrArg Value.bool a2) rfl) ?_
  refine c_nil ?_
  cases hs
  exact ⟨_, fr_ovl 43 ⟨rfl, rfl, rfl, rfl, rfl, rfl, rfl, trivial⟩, hMid⟩
 rintro e6 b6 ⟨σ, rfl, b2⟩
 have h0 := h0.ext b2
 have h1 := h1.ext b2
 have h2 := h2.ext b2
 have a0 := a0.cn b2
 have hC := hC.ext b2
 have hO := hO.ext b2
 rcases bif_some hs with ⟨c2, hs⟩ | ⟨c2, hs⟩
 ·refine c_condT (congrArg Value.bool c2) ?_
  refine c_sr ?_
  refine pl_val (.bool false) (y_assign rfl) ?_
  refine pl_val (.bool false) (y_assign rfl) ?_
  refine c_nil ?_
  refine wp_ret ?_
  cases hs
  exact ⟨_, fr_ovl 43 ⟨rfl, rfl, trivial⟩, hC⟩
 refine c_condF (congrArg Value.bool c2) ?_
 refine wp_skip ?_
 refine c_seq ?_
 refine x_start [] Mx rfl ?_
 have b0 := Chg.drew b6
 generalize World.drew b6 = d2 at b0 ⊢
 have h0 := h0.ext b0
 have h1 := h1.ext b0
 have h2 := h2.ext b0
 have a0 := a0.cn b0
 have hC := hC.ext b0
 have hO := hO.ext b0
 have hS := Chg.refl [] d2
 refine x_l 0 (.agg #[(.int .i64 a_.1), (.slice pa0 pn0 pc0)]) rfl (by kernel_rfl)  (fun w' hw' => y_load rfl ((box_load Ag35 Sz35 a0 [] [(.int .i64 a_.1), (.slice pa0 pn0 pc0)] [] rfl rfl (fun h => nomatch h)) w' hw')) hS ?_
 refine x_p 1 (.int .i64 k) rfl (by kernel_rfl)  (fun _ => y_move rfl) (fun _ => hS) ?_
 refine x_p 2 (.slice pa1 pn1 pc1) rfl (by kernel_rfl)  (fun _ => y_move rfl) (fun _ => hS) ?_
 refine x_l 4 (.agg #[(.int .i64 a_.1), (.slice pa0 pn0 pc0)]) rfl (by kernel_rfl)  (fun w' hw' => y_load rfl ((box_load Ag35 Sz35 a0 [] [(.int .i64 a_.1), (.slice pa0 pn0 pc0)] [] rfl rfl (fun h => nomatch h)) w' hw')) hS ?_
 refine x_p 5 (.int .i64 k) rfl (by kernel_rfl)  (fun _ => y_move rfl) (fun _ => hS) ?_
 refine x_p 6 (.slice pa2 pn2 pc2) rfl (by kernel_rfl)  (fun _ => y_move rfl) (fun _ => hS) ?_
 refine x_one (i := 3) (by kernel_rfl) ?_
 obtain ⟨r20, d3, hs⟩ := bind_some hs
 refine xk_call (b := false) rfl  Bd47 rfl (c_spec_l11Of (M := (Past M a5 a3)) (a_.1, a_.2) k s_ h0 h1 hO.fut d3) rfl (by rintro _ _ _ ⟨d4, d5, d6, b7, rfl, a7, b3, c5⟩; exact hS.ext a7) ?_
 rintro _ e7 ⟨d4, d5, d6, b7, rfl, a7, b3, c5⟩
 have h0 := h0.ext a7
 have h1 := h1.ext a7
 have h2 := h2.ext a7
 have a0 := a0.cn a7
 have hC := hC.ext a7
 have hO := Own.join0 hO a7 c5
 have hO := hO.perm (R := b7 ++ (([b5]) ++ ([]))) (by simp)
 have hS := hS.ext a7
 refine x_one (i := 7) (by kernel_rfl) ?_
 obtain ⟨r23, d7, hs⟩ := bind_some hs
 refine xk_call (b := false) rfl  Bd47 rfl (c_spec_l11Of (M := (Past M a5 a3)) (a_.1, a_.2) k t h0 h2 hO.fut d7) rfl (by rintro _ _ _ ⟨d8, d9, e0, c3, rfl, a6, b8, c6⟩; exact hS.ext a6) ?_
 rintro _ e8 ⟨d8, d9, e0, c3, rfl, a6, b8, c6⟩
 have h0 := h0.ext a6
 have h1 := h1.ext a6
 have h2 := h2.ext a6
 have a0 := a0.cn a6
 have b3 := b3.ext a6
 have hC := hC.ext a6
 have hO := Own.join0 hO a6 c6
 have hO := hO.perm (R := c3 ++ (b7 ++ (([b5]) ++ ([])))) (by simp)
 have hS := hS.ext a6
 refine x_one (i := 8) (by kernel_rfl) ?_
 have hO := hO.fr1
 obtain ⟨r26, e1, hs⟩ := bind_some hs
 refine xk_call (b := false) rfl  Bd50 rfl (c_spec_l1Same (M := (Less (Less (Past M a5 a3) b7) c3)) r20 r23 ((((Frz.os Frz.int)).val b3 Less.sub Less.not).sub Less.sub) (((Frz.os Frz.int)).val (b8.sub Less.sub) Less.sub Less.not) (hO.less).less.fut e1) rfl (by rintro _ _ _ ⟨rfl, a4⟩; exact hS.ext a4) ?_
 rintro _ e9 ⟨rfl, a4⟩
 have h0 := h0.ext a4
 have h1 := h1.ext a4
 have h2 := h2.ext a4
 have a0 := a0.cn a4
 have b3 := b3.ext a4
 have b8 := b8.ext a4
 have hC := hC.ext a4
 have hO := hO.ext a4
 have hS := hS.ext a4
 refine x_p 9 (.bool r26) rfl (by kernel_rfl)  (fun _ => y_assign rfl) (fun _ => hS) ?_
 refine x_p 10 (.bool true) rfl (by kernel_rfl)  (fun _ => y_assign rfl) (fun _ => hS) ?_
 refine x_end (by kernel_rfl) ?_
 clear hS
 refine wp_ret ?_
 cases hs
 exact ⟨_, fr_ovl 43 ⟨rfl, rfl, trivial⟩, hC⟩

def k_impl_power (M : Nat → Prop) (w0 : World) (r : Int) (a : Act) (w : World) : Prop :=
  ∃ (σ : Nat → Value) , a = fr 14 (ovl σ [(4, (.int .i64 r))]) ∧ Chg [] w0 w
def s_impl_power (n : Int) (k : Int) : Option (Int) :=
  (iter (S := Int × Int) (R := Int) (fun s2 =>
  (bif (decide (0 < s2.1)) then some (.nx (w64 (s2.1 - 1), w64 (s2.2 * n))) else some (.br (s2.1, s2.2)))) FU (k, 1)).bind fun o6 => after o6 (fun r_ => some r_) (fun s2 =>
  some s2.2)
set_option maxHeartbeats 4000000 in
theorem c_impl_power {M : Nat → Prop} {w : World}  (n : Int) (k : Int)  (hM : ∀ g, w.heap.size ≤ g → M g) {r : Int} (hs : s_impl_power n k = some r) :
    Gives Try.prog 88 [(.int .i64 n), (.int .i64 k)] w (fun v w' => v = (.int .i64 r) ∧ Chg [] w w') := by
 refine calls_fr Try.func88 rfl Try.ntmps88 (Nat.le_of_ble_eq_true rfl) ?_
 have hO := Own.start (N := Nw w []) hM Nw.fut
 have hC := Chg.refl [] w
 unfold s_impl_power at hs
 refine wp_mono (Q := KPost (k_impl_power M w r)) ?_ (fun e a a2 h => ?_)
 rotate_left
 ·cases e
  case ret =>
   obtain ⟨σ, rfl, hrest⟩ := h
   exact ret1x Try.results88 (res_tmp rfl) ⟨rfl, hrest⟩
  all_goals exact (h : False).elim
 refine c_sr ?_
 refine pl_val (.int .i64 0) (y_assign rfl) ?_
 refine c_nil ?_
 refine c_sr ?_
 refine pl_val (.int .i64 1) (y_assign rfl) ?_
 refine c_nil ?_
 refine c_seq ?_
 obtain ⟨o6, a3, hs⟩ := bind_some hs
 refine wp_block ?_
 refine wp_iter (id := 0) (I := fun s2 a a0 => ∃ (σ : Nat → Value), a = fr 14 (ovl σ [(0, (.int .i64 n)), (1, (.int .i64 s2.1)), (5, (.int .i64 s2.2))]) ∧ Chg [] w a0 ∧ Own (Nw w []) M a0 ([])) (J := fun s2 a a0 => ∃ (σ : Nat → Value), a = fr 14 (ovl σ [(5, (.int .i64 s2.2))]) ∧ Chg [] w a0 ∧ Own (Nw w []) M a0 ([])) (K := (k_impl_power M w)) ?_ FU (k, 1) o6 _ _ ?_ a3 ?_
 ·rintro s2 o6 a a0 ⟨σ, rfl, hC, hO⟩ hs
  refine c_seq ?_
  refine c_sr ?_
  refine pl_val (.int .i64 s2.1) (y_move rfl) ?_
  refine pl_val (.bool (decide (0 < s2.1))) (y_gtr rfl rfl) ?_
  refine c_nil ?_
  rcases bif_some hs with ⟨a1, hs⟩ | ⟨a1, hs⟩
  ·refine c_condT (congrArg Value.bool a1) ?_
   refine wp_skip ?_
   refine c_seq ?_
   refine wp_block ?_
   refine c_region ?_
   refine pl_val (.int .i64 s2.2) (y_move rfl) ?_
   refine pl_val (.int .i64 n) (y_move rfl) ?_
   refine pl_val (.int .i64 (w64 (s2.2 * n))) (y_mul rfl rfl) ?_
   refine pl_val (.int .i64 (w64 (s2.2 * n))) (y_assign rfl) ?_
   refine c_nil ?_
   refine c_region ?_
   refine pl_val (.int .i64 s2.1) (y_move rfl) ?_
   refine pl_val (.int .i64 (w64 (s2.1 - 1))) (y_sub rfl rfl) ?_
   refine pl_val (.int .i64 (w64 (s2.1 - 1))) (y_assign rfl) ?_
   refine c_nil ?_
   cases hs
   exact ⟨_, fr_ovl 14 ⟨rfl, rfl, rfl, trivial⟩, hC, hO⟩
  refine c_condF (congrArg Value.bool a1) ?_
  refine wp_exit ?_
  cases hs
  exact ⟨rfl, _, fr_ovl 14 ⟨rfl, trivial⟩, hC, hO⟩
 ·skip
  exact ⟨_, fr_ovl 14 ⟨rfl, rfl, rfl, trivial⟩, hC, hO⟩
 cases o6 with
 | nx _ => exact True.intro
 | rt r_ =>
  have hs := after_rt hs
  intro a4 a2 hK
  cases hs
  exact hK
 | br s2 =>
  have hs := after_br hs
  rintro a4 a0 ⟨σ, rfl, hC, hO⟩
  refine c_sr ?_
  refine pl_val (.int .i64 s2.2) (y_move rfl) ?_
  refine pl_val (.int .i64 s2.2) (y_assign rfl) ?_
  refine c_nil ?_
  refine wp_ret ?_
  cases hs
  exact ⟨_, fr_ovl 14 ⟨rfl, trivial⟩, hC⟩

def k_impl_inSize (M : Nat → Prop) (w0 : World) (r : Bool) (a : Act) (w : World) : Prop :=
  ∃ (σ : Nat → Value) , a = fr 21 (ovl σ [(4, (.bool r))]) ∧ Chg [] w0 w
def s_impl_inSize (list : List Int) (n : Int) : Option (Bool) :=
  (forR (S := Unit) (R := Bool) (fun _ x8 s5 =>
  (bif (decide (x8 < 0)) then some (.rt false) else (bif (decide (n ≤ x8)) then some (.rt false) else some (.nx ())))) 0 list ()).bind fun o9 => after o9 (fun r_ => some r_) (fun s5 =>
  some true)
set_option maxHeartbeats 4000000 in
theorem c_impl_inSize {M : Nat → Prop} {w : World} {pa0 : Option Addr} {pn0 pc0 : Nat} (list : List Int) (n : Int) (h0 : (RT.rs (RT.int .i64)).val M w (.slice pa0 pn0 pc0) list ([])) (hM : ∀ g, w.heap.size ≤ g → M g) {r : Bool} (hs : s_impl_inSize list n = some r) :
    Gives Try.prog 77 [(.slice pa0 pn0 pc0), (.int .i64 n)] w (fun v w' => v = (.bool r) ∧ Chg [] w w') := by
 refine calls_fr Try.func77 rfl Try.ntmps77 (Nat.le_of_ble_eq_true rfl) ?_
 have hO := Own.start (N := Nw w []) hM Nw.fut
 have hC := Chg.refl [] w
 unfold s_impl_inSize at hs
 refine wp_mono (Q := KPost (k_impl_inSize M w r)) ?_ (fun e a a4 h => ?_)
 rotate_left
 ·cases e
  case ret =>
   obtain ⟨σ, rfl, hrest⟩ := h
   exact ret1x Try.results77 (res_tmp rfl) ⟨rfl, hrest⟩
  all_goals exact (h : False).elim
 refine c_sr ?_
 refine pl_val (.bool false) (y_assign rfl) ?_
 refine c_nil ?_
 refine c_seq ?_
 refine c_sr ?_
 refine pl_val (.slice pa0 pn0 pc0) (y_move rfl) ?_
 refine pl_val (.int .i64 (list.length : Int)) (y_len' Sl43 (rs_len h0) rfl) ?_
 refine pl_val (.int .i64 0) (y_move rfl) ?_
 refine c_nil ?_
 obtain ⟨o9, a5, hs⟩ := bind_some hs
 refine wp_block ?_
 refine wp_forR (id := 0) (I := fun i_ xs_ s5 a a0 => ∃ a1 : Nat, i_ = (a1 : Int) ∧ List.drop a1 list = xs_ ∧ (∃ (σ : Nat → Value), a = fr 21 (ovl σ [(1, (.int .i64 n)), (7, (.slice pa0 pn0 pc0)), (8, (.int .i64 (list.length : Int))), (9, (.int .i64 (a1 : Int)))]) ∧ Chg [] w a0 ∧ Own (Nw w []) M a0 ([]) ∧ (RT.rs (RT.int .i64)).val M a0 (.slice pa0 pn0 pc0) list ([]))) (J := fun s5 a a0 => ∃ (σ : Nat → Value), a = fr 21 (ovl σ []) ∧ Chg [] w a0 ∧ Own (Nw w []) M a0 ([]) ∧ (RT.rs (RT.int .i64)).val M a0 (.slice pa0 pn0 pc0) list ([])) (K := (k_impl_inSize M w)) ?_ ?_ list 0 () o9 _ _ ?_ a5 ?_
 ·rintro _ s5 a a0 ⟨a1, rfl, hd, σ, rfl, hC, hO, h0⟩
  have hlt := drop_nil_ge hd
  refine c_sr ?_
  refine pl_val (.bool (decide ((a1 : Int) < (list.length : Int)))) (y_lss rfl rfl) ?_
  refine c_nil ?_
  refine c_seq ?_
  refine c_condF (congrArg Value.bool (decide_eq_false hlt)) ?_
  refine wp_exit ?_
  exact ⟨rfl, _, fr_ovl 21 trivial, hC, hO, h0⟩
 ·rintro _ x8 xs_ s5 o9 a a0 ⟨a1, rfl, hd, σ, rfl, hC, hO, h0⟩ hs
  have hlt := drop_cons_lt hd
  have a6 := drop_cons_idx hd
  refine c_sr ?_
  refine pl_val (.bool (decide ((a1 : Int) < (list.length : Int)))) (y_lss rfl rfl) ?_
  refine c_nil ?_
  refine c_seq ?_
  refine c_condT (congrArg Value.bool (decide_eq_true hlt)) ?_
  refine wp_skip ?_
  refine c_seq ?_
  refine wp_block ?_
  refine c_sr ?_
  obtain ⟨a7, a8, a9, b0⟩ := rs_idx Sl43 Sz3 h0 a6
  refine pl_val (.pointer (some ⟨a7, a8, none⟩)) (a9 _ _ _ _ _ _ _ _ _ rfl rfl) ?_
  refine pl_val (.int .i64 x8) (y_load rfl ((at_load_int Ag3 Sz3 b0) _ (Chg.refl _ _))) ?_
  refine pl_val (.int .i64 x8) (y_assign rfl) ?_
  refine c_nil ?_
  refine c_sr ?_
  refine pl_val (.int .i64 x8) (y_move rfl) ?_
  refine pl_val (.bool (decide (x8 < 0))) (y_lss rfl rfl) ?_
  refine pl_val (.bool (decide (x8 < 0))) (y_move rfl) ?_
  rcases bif_some hs with ⟨a2, hs⟩ | ⟨a2, hs⟩
  ·skip
   refine pl_not (tg := 15) (by kernel_rfl) (congrArg Value.bool a2) ?_
   refine pl_not (tg := 15) (by kernel_rfl) (congrArg Value.bool a2) ?_
   refine pl_not (tg := 15) (by kernel_rfl) (congrArg Value.bool a2) ?_
   refine pl_val (.bool true) (y_pick_t (congrArg Value.bool a2) rfl) ?_
   refine c_nil ?_
   refine c_condT (by rfl) ?_
   refine c_sr ?_
   refine pl_val (.bool false) (y_assign rfl) ?_
   refine c_nil ?_
   refine wp_ret ?_
   cases hs
   exact ⟨_, fr_ovl 21 ⟨rfl, trivial⟩, hC⟩
  refine pl_yes (.int .i64 x8) (tg := 15) (by kernel_rfl) (congrArg Value.bool a2) (y_move rfl) ?_
  refine pl_yes (.int .i64 n) (tg := 15) (by kernel_rfl) (congrArg Value.bool a2) (y_move rfl) ?_
  refine pl_yes (.bool (decide (n ≤ x8))) (tg := 15) (by kernel_rfl) (congrArg Value.bool a2) (y_geq rfl rfl) ?_
  refine pl_val (.bool (decide (n ≤ x8))) (y_pick_f (congrArg Value.bool a2) rfl) ?_
  refine c_nil ?_
  rcases bif_some hs with ⟨a3, hs⟩ | ⟨a3, hs⟩
  ·refine c_condT (congrArg Value.bool a3) ?_
   refine c_sr ?_
   refine pl_val (.bool false) (y_assign rfl) ?_
   refine c_nil ?_
   refine wp_ret ?_
   cases hs
   exact ⟨_, fr_ovl 21 ⟨rfl, trivial⟩, hC⟩
  refine c_condF (congrArg Value.bool a3) ?_
  refine wp_skip ?_
  refine c_region ?_
  refine pl_val (.int .i64 (w64 ((a1 : Int) + 1))) (y_add rfl rfl) ?_
  refine pl_val (.int .i64 (w64 ((a1 : Int) + 1))) (y_move rfl) ?_
  refine c_nil ?_
  cases hs
  exact ⟨_, rfl, drop_cons_next hd, _, fr_ovl 21 ⟨rfl, rfl, rfl, congrArg (Value.int .i64) (w64_succ hlt (Int.natCast_nonneg _) (rs_max h0)), trivial⟩, hC, hO, h0⟩
 ·skip
  exact ⟨0, rfl, rfl, _, fr_ovl 21 ⟨rfl, rfl, rfl, rfl, trivial⟩, hC, hO, h0⟩
 cases o9 with
 | nx _ => exact True.intro
 | rt r_ =>
  have hs := after_rt hs
  intro b1 a4 hK
  cases hs
  exact hK
 | br s5 =>
  have hs := after_br hs
  rintro b1 a0 ⟨σ, rfl, hC, hO, h0⟩
  refine c_sr ?_
  refine pl_val (.bool true) (y_assign rfl) ?_
  refine c_nil ?_
  refine wp_ret ?_
  cases hs
  exact ⟨_, fr_ovl 21 ⟨rfl, trivial⟩, hC⟩

theorem Bd88 : Bodied Try.prog 88 := bodied Try.func88 (by kernel_rfl) rfl

theorem Bd77 : Bodied Try.prog 77 := bodied Try.func77 (by kernel_rfl) rfl

def k_impl_isOp (M : Nat → Prop) (w0 : World) (r : Bool) (a : Act) (w : World) : Prop :=
  ∃ (σ : Nat → Value) , a = fr 29 (ovl σ [(4, (.bool r))]) ∧ Chg [] w0 w
def s_impl_isOp (f : Int × (List Int)) (n : Int) : Option (Bool) :=
  (bif (decide (0 ≤ f.1)) then (bif (decide (f.1 ≤ 3)) then (s_impl_power n f.1).bind fun r7 =>
  (bif ((f.2.length : Int) == r7) then (s_impl_inSize f.2 n).bind fun r10 =>
  some r10 else some false) else some false) else some false)
set_option maxHeartbeats 4000000 in
theorem c_impl_isOp {M : Nat → Prop} {w : World} {pa0 : Option Addr} {pn0 pc0 : Nat} (f : Int × (List Int)) (n : Int) (h0 : (RT.rs (RT.int .i64)).val M w (.slice pa0 pn0 pc0) f.2 ([])) (hM : ∀ g, w.heap.size ≤ g → M g) {r : Bool} (hs : s_impl_isOp f n = some r) :
    Gives Try.prog 76 [(.agg #[(.int .i64 f.1), (.slice pa0 pn0 pc0)]), (.int .i64 n)] w (fun v w' => v = (.bool r) ∧ Chg [] w w') := by
 refine calls_fr Try.func76 rfl Try.ntmps76 (Nat.le_of_ble_eq_true rfl) ?_
 have hO := Own.start (N := Nw w []) hM Nw.fut
 have hC := Chg.refl [] w
 unfold s_impl_isOp at hs
 refine wp_mono (Q := KPost (k_impl_isOp M w r)) ?_ (fun e a b5 h => ?_)
 rotate_left
 ·cases e
  case ret =>
   obtain ⟨σ, rfl, hrest⟩ := h
   exact ret1x Try.results76 (res_tmp rfl) ⟨rfl, hrest⟩
  all_goals exact (h : False).elim
 refine c_sr ?_
 obtain ⟨a8, a6, b1, b0, a9, a1⟩ := new_block w [(.int .i64 f.1), (.slice pa0 pn0 pc0)] 89
 refine pl_val (w' := a8) (.pointer (some ⟨a6, 0, none⟩)) (y_box rfl (by rw [b1, b0]; kernel_rfl)) ?_
 have h0 := h0.ext a9
 have hC := hC.ext a9
 have hO := hO.new1 a9 b0 a1.lt
 refine pl_val (.bool false) (y_assign rfl) ?_
 refine c_nil ?_
 refine c_seq ?_
 refine x_start [] Mx rfl ?_
 have a7 := Chg.drew a8
 generalize World.drew a8 = b2 at a7 ⊢
 have h0 := h0.ext a7
 have a1 := a1.cn a7
 have hC := hC.ext a7
 have hO := hO.ext a7
 have hS := Chg.refl [] b2
 refine x_p 0 (.pointer (some ⟨a6, 0, none⟩)) rfl (by kernel_rfl)  (fun _ => y_faddr rfl Fa89x0) (fun _ => hS) ?_
 refine x_l 1 (.int .i64 f.1) rfl (by kernel_rfl)  (fun w' hw' => y_load rfl ((box_load Ag3 Sz3 a1 [] [(.int .i64 f.1)] [(.slice pa0 pn0 pc0)] rfl rfl (fun _ => rfl)) w' hw')) hS ?_
 refine x_p 2 (.bool (decide (0 ≤ f.1))) rfl (by kernel_rfl)  (fun _ => y_geq rfl rfl) (fun _ => hS) ?_
 refine x_p 3 (.bool (decide (0 ≤ f.1))) rfl (by kernel_rfl)  (fun _ => y_move rfl) (fun _ => hS) ?_
 rcases bif_some hs with ⟨a3, hs⟩ | ⟨a3, hs⟩
 ·skip
  refine x_py 4 (.pointer (some ⟨a6, 0, none⟩)) rfl (by kernel_rfl) (tg := 8) (by kernel_rfl) (congrArg Value.bool a3) (fun _ => y_faddr rfl Fa89x0) (fun _ => hS) ?_
  refine x_ly 5 (.int .i64 f.1) rfl (by kernel_rfl) (tg := 8) (by kernel_rfl) (congrArg Value.bool a3) (fun w' hw' => y_load rfl ((box_load Ag3 Sz3 a1 [] [(.int .i64 f.1)] [(.slice pa0 pn0 pc0)] rfl rfl (fun _ => rfl)) w' hw')) hS ?_
  refine x_py 6 (.bool (decide (f.1 ≤ 3))) rfl (by kernel_rfl) (tg := 8) (by kernel_rfl) (congrArg Value.bool a3) (fun _ => y_leq rfl rfl) (fun _ => hS) ?_
  refine x_p 7 (.bool (decide (f.1 ≤ 3))) rfl (by kernel_rfl)  (fun _ => y_pick_t (congrArg Value.bool a3) rfl) (fun _ => hS) ?_
  refine x_p 8 (.bool (decide (f.1 ≤ 3))) rfl (by kernel_rfl)  (fun _ => y_move rfl) (fun _ => hS) ?_
  rcases bif_some hs with ⟨a0, hs⟩ | ⟨a0, hs⟩
  ·skip
   refine x_py 9 (.pointer (some ⟨a6, 1, none⟩)) rfl (by kernel_rfl) (tg := 13) (by kernel_rfl) (congrArg Value.bool a0) (fun _ => y_faddr rfl Fa89x1) (fun _ => hS) ?_
   refine x_ly 10 (.slice pa0 pn0 pc0) rfl (by kernel_rfl) (tg := 13) (by kernel_rfl) (congrArg Value.bool a0) (fun w' hw' => y_load rfl ((box_load Ag43 Sz43 a1 [(.int .i64 f.1)] [(.slice pa0 pn0 pc0)] [] rfl rfl (fun _ => rfl)) w' hw')) hS ?_
   refine x_py 11 (.int .i64 (f.2.length : Int)) rfl (by kernel_rfl) (tg := 13) (by kernel_rfl) (congrArg Value.bool a0) (fun _ => y_len' Sl43 (rs_len h0) rfl) (fun _ => hS) ?_
   refine x_py 12 (.int .i64 n) rfl (by kernel_rfl) (tg := 13) (by kernel_rfl) (congrArg Value.bool a0) (fun _ => y_move rfl) (fun _ => hS) ?_
   refine x_py 13 (.pointer (some ⟨a6, 0, none⟩)) rfl (by kernel_rfl) (tg := 13) (by kernel_rfl) (congrArg Value.bool a0) (fun _ => y_faddr rfl Fa89x0) (fun _ => hS) ?_
   refine x_ly 14 (.int .i64 f.1) rfl (by kernel_rfl) (tg := 13) (by kernel_rfl) (congrArg Value.bool a0) (fun w' hw' => y_load rfl ((box_load Ag3 Sz3 a1 [] [(.int .i64 f.1)] [(.slice pa0 pn0 pc0)] rfl rfl (fun _ => rfl)) w' hw')) hS ?_
   refine x_one (i := 15) (by kernel_rfl) ?_
   obtain ⟨r7, b3, hs⟩ := bind_some hs
   refine xk_cally (b := false) rfl (tg := 13) (by kernel_rfl) (congrArg Value.bool a0) Bd88 rfl (c_impl_power (M := M) n f.1  hO.fut b3) rfl (by rintro _ _ _ ⟨rfl, a4⟩; exact hS.ext a4) ?_
   rintro _ b6 ⟨rfl, a4⟩
   have h0 := h0.ext a4
   have a1 := a1.cn a4
   have hC := hC.ext a4
   have hO := hO.ext a4
   have hS := hS.ext a4
   refine x_py 16 (.bool ((f.2.length : Int) == r7)) rfl (by kernel_rfl) (tg := 13) (by kernel_rfl) (congrArg Value.bool a0) (fun _ => y_eql rfl rfl) (fun _ => hS) ?_
   refine x_p 17 (.bool ((f.2.length : Int) == r7)) rfl (by kernel_rfl)  (fun _ => y_pick_t (congrArg Value.bool a0) rfl) (fun _ => hS) ?_
   refine x_p 18 (.bool ((f.2.length : Int) == r7)) rfl (by kernel_rfl)  (fun _ => y_move rfl) (fun _ => hS) ?_
   rcases bif_some hs with ⟨a2, hs⟩ | ⟨a2, hs⟩
   ·skip
    refine x_py 19 (.pointer (some ⟨a6, 1, none⟩)) rfl (by kernel_rfl) (tg := 23) (by kernel_rfl) (congrArg Value.bool a2) (fun _ => y_faddr rfl Fa89x1) (fun _ => hS) ?_
    refine x_py 21 (.int .i64 n) rfl (by kernel_rfl) (tg := 23) (by kernel_rfl) (congrArg Value.bool a2) (fun _ => y_move rfl) (fun _ => hS) ?_
    refine x_one (i := 20) (by kernel_rfl) ?_
    refine xk_valy (b := false) (.slice pa0 pn0 pc0) rfl (tg := 23) (by kernel_rfl) (congrArg Value.bool a2) (y_load rfl ((box_load Ag43 Sz43 a1 [(.int .i64 f.1)] [(.slice pa0 pn0 pc0)] [] rfl rfl (fun _ => rfl)) _ (Chg.refl _ _))) rfl (fun _ => hS) ?_
    refine x_one (i := 22) (by kernel_rfl) ?_
    obtain ⟨r10, b4, hs⟩ := bind_some hs
    refine xk_cally (b := false) rfl (tg := 23) (by kernel_rfl) (congrArg Value.bool a2) Bd77 rfl (c_impl_inSize (M := M) f.2 n h0 hO.fut b4) rfl (by rintro _ _ _ ⟨rfl, a5⟩; exact hS.ext a5) ?_
    rintro _ b7 ⟨rfl, a5⟩
    have h0 := h0.ext a5
    have a1 := a1.cn a5
    have hC := hC.ext a5
    have hO := hO.ext a5
    have hS := hS.ext a5
    refine x_p 23 (.bool r10) rfl (by kernel_rfl)  (fun _ => y_pick_t (congrArg Value.bool a2) rfl) (fun _ => hS) ?_
    refine x_p 24 (.bool r10) rfl (by kernel_rfl)  (fun _ => y_assign rfl) (fun _ => hS) ?_
    refine x_end (by kernel_rfl) ?_
    clear hS
    refine wp_ret ?_
    cases hs
    exact ⟨_, fr_ovl 29 ⟨rfl, trivial⟩, hC⟩
   refine x_pn 19 rfl (by kernel_rfl) (tg := 23) (by kernel_rfl) (congrArg Value.bool a2) (fun _ => hS) ?_
   refine x_pn 20 rfl (by kernel_rfl) (tg := 23) (by kernel_rfl) (congrArg Value.bool a2) (fun _ => hS) ?_
   refine x_pn 21 rfl (by kernel_rfl) (tg := 23) (by kernel_rfl) (congrArg Value.bool a2) (fun _ => hS) ?_
   refine x_pn 22 rfl (by kernel_rfl) (tg := 23) (by kernel_rfl) (congrArg Value.bool a2) (fun _ => hS) ?_
   refine x_p 23 (.bool false) rfl (by kernel_rfl)  (fun _ => y_pick_f (congrArg Value.bool a2) rfl) (fun _ => hS) ?_
   refine x_p 24 (.bool false) rfl (by kernel_rfl)  (fun _ => y_assign rfl) (fun _ => hS) ?_
   refine x_end (by kernel_rfl) ?_
   clear hS
   refine wp_ret ?_
   cases hs
   exact ⟨_, fr_ovl 29 ⟨rfl, trivial⟩, hC⟩
  refine x_pn 9 rfl (by kernel_rfl) (tg := 13) (by kernel_rfl) (congrArg Value.bool a0) (fun _ => hS) ?_
  refine x_pn 10 rfl (by kernel_rfl) (tg := 13) (by kernel_rfl) (congrArg Value.bool a0) (fun _ => hS) ?_
  refine x_pn 11 rfl (by kernel_rfl) (tg := 13) (by kernel_rfl) (congrArg Value.bool a0) (fun _ => hS) ?_
  refine x_pn 12 rfl (by kernel_rfl) (tg := 13) (by kernel_rfl) (congrArg Value.bool a0) (fun _ => hS) ?_
  refine x_pn 13 rfl (by kernel_rfl) (tg := 13) (by kernel_rfl) (congrArg Value.bool a0) (fun _ => hS) ?_
  refine x_pn 14 rfl (by kernel_rfl) (tg := 13) (by kernel_rfl) (congrArg Value.bool a0) (fun _ => hS) ?_
  refine x_pn 15 rfl (by kernel_rfl) (tg := 13) (by kernel_rfl) (congrArg Value.bool a0) (fun _ => hS) ?_
  refine x_pn 16 rfl (by kernel_rfl) (tg := 13) (by kernel_rfl) (congrArg Value.bool a0) (fun _ => hS) ?_
  refine x_p 17 (.bool false) rfl (by kernel_rfl)  (fun _ => y_pick_f (congrArg Value.bool a0) rfl) (fun _ => hS) ?_
  refine x_p 18 (.bool false) rfl (by kernel_rfl)  (fun _ => y_move rfl) (fun _ => hS) ?_
  refine x_pn 19 rfl (by kernel_rfl) (tg := 23) (by kernel_rfl) (by rfl) (fun _ => hS) ?_
  refine x_pn 20 rfl (by kernel_rfl) (tg := 23) (by kernel_rfl) (by rfl) (fun _ => hS) ?_
  refine x_pn 21 rfl (by kernel_rfl) (tg := 23) (by kernel_rfl) (by rfl) (fun _ => hS) ?_
  refine x_pn 22 rfl (by kernel_rfl) (tg := 23) (by kernel_rfl) (by rfl) (fun _ => hS) ?_
  refine x_p 23 (.bool false) rfl (by kernel_rfl)  (fun _ => y_pick_f (by rfl) rfl) (fun _ => hS) ?_
  refine x_p 24 (.bool false) rfl (by kernel_rfl)  (fun _ => y_assign rfl) (fun _ => hS) ?_
  refine x_end (by kernel_rfl) ?_
  clear hS
  refine wp_ret ?_
  cases hs
  exact ⟨_, fr_ovl 29 ⟨rfl, trivial⟩, hC⟩
 refine x_pn 4 rfl (by kernel_rfl) (tg := 8) (by kernel_rfl) (congrArg Value.bool a3) (fun _ => hS) ?_
 refine x_pn 5 rfl (by kernel_rfl) (tg := 8) (by kernel_rfl) (congrArg Value.bool a3) (fun _ => hS) ?_
 refine x_pn 6 rfl (by kernel_rfl) (tg := 8) (by kernel_rfl) (congrArg Value.bool a3) (fun _ => hS) ?_
 refine x_p 7 (.bool false) rfl (by kernel_rfl)  (fun _ => y_pick_f (congrArg Value.bool a3) rfl) (fun _ => hS) ?_
 refine x_p 8 (.bool false) rfl (by kernel_rfl)  (fun _ => y_move rfl) (fun _ => hS) ?_
 refine x_pn 9 rfl (by kernel_rfl) (tg := 13) (by kernel_rfl) (by rfl) (fun _ => hS) ?_
 refine x_pn 10 rfl (by kernel_rfl) (tg := 13) (by kernel_rfl) (by rfl) (fun _ => hS) ?_
 refine x_pn 11 rfl (by kernel_rfl) (tg := 13) (by kernel_rfl) (by rfl) (fun _ => hS) ?_
 refine x_pn 12 rfl (by kernel_rfl) (tg := 13) (by kernel_rfl) (by rfl) (fun _ => hS) ?_
 refine x_pn 13 rfl (by kernel_rfl) (tg := 13) (by kernel_rfl) (by rfl) (fun _ => hS) ?_
 refine x_pn 14 rfl (by kernel_rfl) (tg := 13) (by kernel_rfl) (by rfl) (fun _ => hS) ?_
 refine x_pn 15 rfl (by kernel_rfl) (tg := 13) (by kernel_rfl) (by rfl) (fun _ => hS) ?_
 refine x_pn 16 rfl (by kernel_rfl) (tg := 13) (by kernel_rfl) (by rfl) (fun _ => hS) ?_
 refine x_p 17 (.bool false) rfl (by kernel_rfl)  (fun _ => y_pick_f (by rfl) rfl) (fun _ => hS) ?_
 refine x_p 18 (.bool false) rfl (by kernel_rfl)  (fun _ => y_move rfl) (fun _ => hS) ?_
 refine x_pn 19 rfl (by kernel_rfl) (tg := 23) (by kernel_rfl) (by rfl) (fun _ => hS) ?_
 refine x_pn 20 rfl (by kernel_rfl) (tg := 23) (by kernel_rfl) (by rfl) (fun _ => hS) ?_
 refine x_pn 21 rfl (by kernel_rfl) (tg := 23) (by kernel_rfl) (by rfl) (fun _ => hS) ?_
 refine x_pn 22 rfl (by kernel_rfl) (tg := 23) (by kernel_rfl) (by rfl) (fun _ => hS) ?_
 refine x_p 23 (.bool false) rfl (by kernel_rfl)  (fun _ => y_pick_f (by rfl) rfl) (fun _ => hS) ?_
 refine x_p 24 (.bool false) rfl (by kernel_rfl)  (fun _ => y_assign rfl) (fun _ => hS) ?_
 refine x_end (by kernel_rfl) ?_
 clear hS
 refine wp_ret ?_
 cases hs
 exact ⟨_, fr_ovl 29 ⟨rfl, trivial⟩, hC⟩

theorem Bd76 : Bodied Try.prog 76 := bodied Try.func76 (by kernel_rfl) rfl

def k_impl_IsAlgebra (M : Nat → Prop) (w0 : World) (r : Bool) (a : Act) (w : World) : Prop :=
  ∃ (σ : Nat → Value) , a = fr 32 (ovl σ [(2, (.bool r))]) ∧ Chg [] w0 w
def s_impl_IsAlgebra (a_ : Int × (List (Int × (List Int)))) : Option (Bool) :=
  (bif (((decide (a_.1 < 1)) || (decide (8 < a_.1))) || (decide (4 < (a_.2.length : Int)))) then some false else (forR (S := Unit) (R := Bool) (fun _ x21 s18 =>
  (s_impl_isOp (x21.1, x21.2) a_.1).bind fun r30 =>
  (bif (!r30) then some (.rt false) else some (.nx ()))) 0 a_.2 ()).bind fun o22 => after o22 (fun r_ => some r_) (fun s18 =>
  some true))
set_option maxHeartbeats 4000000 in
theorem c_impl_IsAlgebra {M : Nat → Prop} {w : World} {pa0 : Option Addr} {pn0 pc0 : Nat} (a_ : Int × (List (Int × (List Int)))) (h0 : (RT.rs (RT.pr (RT.int .i64) (RT.rs (RT.int .i64)))).val M w (.slice pa0 pn0 pc0) a_.2 ([])) (hM : ∀ g, w.heap.size ≤ g → M g) {r : Bool} (hs : s_impl_IsAlgebra a_ = some r) :
    Gives Try.prog 39 [(.agg #[(.int .i64 a_.1), (.slice pa0 pn0 pc0)])] w (fun v w' => v = (.bool r) ∧ Chg [] w w') := by
 refine calls_fr Try.func39 rfl Try.ntmps39 (Nat.le_of_ble_eq_true rfl) ?_
 have hO := Own.start (N := Nw w []) hM Nw.fut
 have hC := Chg.refl [] w
 unfold s_impl_IsAlgebra at hs
 refine wp_mono (Q := KPost (k_impl_IsAlgebra M w r)) ?_ (fun e a c8 h => ?_)
 rotate_left
 ·cases e
  case ret =>
   obtain ⟨σ, rfl, hrest⟩ := h
   exact ret1x Try.results39 (res_tmp rfl) ⟨rfl, hrest⟩
  all_goals exact (h : False).elim
 refine c_sr ?_
 obtain ⟨b6, a1, c9, c1, b7, a0⟩ := new_block w [(.int .i64 a_.1), (.slice pa0 pn0 pc0)] 35
 refine pl_val (w' := b6) (.pointer (some ⟨a1, 0, none⟩)) (y_box rfl (by rw [c9, c1]; kernel_rfl)) ?_
 have h0 := h0.ext b7
 have hC := hC.ext b7
 have hO := hO.new1 b7 c1 a0.lt
 refine pl_val (.bool false) (y_assign rfl) ?_
 refine c_nil ?_
 refine c_seq ?_
 refine c_seq ?_
 refine c_mid (I := fun a c2 => ∃ (σ : Nat → Value), a = fr 32 (ovl σ [(1, (.pointer (some ⟨a1, 0, none⟩))), (2, (.bool false)), (18, (.bool (((decide (a_.1 < 1)) || (decide (8 < a_.1))) || (decide (4 < (a_.2.length : Int))))))]) ∧ Chg [] b6 c2) ?_ ?_
 ·have hMid := Chg.refl [] b6
  refine c_region ?_
  refine pl_val (.pointer (some ⟨a1, 0, none⟩)) (y_faddr rfl Fa35x0) ?_
  refine pl_val (.int .i64 a_.1) (y_load rfl ((box_load Ag3 Sz3 a0 [] [(.int .i64 a_.1)] [(.slice pa0 pn0 pc0)] rfl rfl (fun _ => rfl)) _ (Chg.refl _ _))) ?_
  refine pl_val (.bool (decide (a_.1 < 1))) (y_lss rfl rfl) ?_
  refine pl_val (.bool (decide (a_.1 < 1))) (y_move rfl) ?_
  rcases Bool.eq_false_or_eq_true ((decide (a_.1 < 1))) with a5 | a5
  ·skip
   refine pl_not (tg := 8) (by kernel_rfl) (congrArg Value.bool a5) ?_
   refine pl_not (tg := 8) (by kernel_rfl) (congrArg Value.bool a5) ?_
   refine pl_not (tg := 8) (by kernel_rfl) (congrArg Value.bool a5) ?_
   refine pl_val (.bool ((decide (a_.1 < 1)) || (decide (8 < a_.1)))) (y_pick_t (congrArg Value.bool a5) (congrArg Value.bool (by rw [a5]; rfl))) ?_
   refine pl_val (.bool ((decide (a_.1 < 1)) || (decide (8 < a_.1)))) (y_move rfl) ?_
   rcases Bool.eq_false_or_eq_true (((decide (a_.1 < 1)) || (decide (8 < a_.1)))) with a2 | a2
   ·skip
    refine pl_not (tg := 13) (by kernel_rfl) (congrArg Value.bool a2) ?_
    refine pl_not (tg := 13) (by kernel_rfl) (congrArg Value.bool a2) ?_
    refine pl_not (tg := 13) (by kernel_rfl) (congrArg Value.bool a2) ?_
    refine pl_not (tg := 13) (by kernel_rfl) (congrArg Value.bool a2) ?_
    refine pl_val (.bool (((decide (a_.1 < 1)) || (decide (8 < a_.1))) || (decide (4 < (a_.2.length : Int))))) (y_pick_t (congrArg Value.bool a2) (congrArg Value.bool (by rw [a2]; rfl))) ?_
    refine c_nil ?_
    exact ⟨_, fr_ovl 32 ⟨rfl, rfl, rfl, trivial⟩, hMid⟩
   refine pl_yes (.pointer (some ⟨a1, 1, none⟩)) (tg := 13) (by kernel_rfl) (congrArg Value.bool a2) (y_faddr rfl Fa35x1) ?_
   refine pl_yes (.slice pa0 pn0 pc0) (tg := 13) (by kernel_rfl) (congrArg Value.bool a2) (y_load rfl ((box_load Ag33 Sz33 a0 [(.int .i64 a_.1)] [(.slice pa0 pn0 pc0)] [] rfl rfl (fun _ => rfl)) _ (Chg.refl _ _))) ?_
   refine pl_yes (.int .i64 (a_.2.length : Int)) (tg := 13) (by kernel_rfl) (congrArg Value.bool a2) (y_len' Sl33 (rs_len h0) rfl) ?_
   refine pl_yes (.bool (decide (4 < (a_.2.length : Int)))) (tg := 13) (by kernel_rfl) (congrArg Value.bool a2) (y_gtr rfl rfl) ?_
   refine pl_val (.bool (((decide (a_.1 < 1)) || (decide (8 < a_.1))) || (decide (4 < (a_.2.length : Int))))) (y_pick_f (congrArg Value.bool a2) (congrArg Value.bool (by rw [a2]; rfl))) ?_
   refine c_nil ?_
   exact ⟨_, fr_ovl 32 ⟨rfl, rfl, rfl, trivial⟩, hMid⟩
  refine pl_yes (.pointer (some ⟨a1, 0, none⟩)) (tg := 8) (by kernel_rfl) (congrArg Value.bool a5) (y_faddr rfl Fa35x0) ?_
  refine pl_yes (.int .i64 a_.1) (tg := 8) (by kernel_rfl) (congrArg Value.bool a5) (y_load rfl ((box_load Ag3 Sz3 a0 [] [(.int .i64 a_.1)] [(.slice pa0 pn0 pc0)] rfl rfl (fun _ => rfl)) _ (Chg.refl _ _))) ?_
  refine pl_yes (.bool (decide (8 < a_.1))) (tg := 8) (by kernel_rfl) (congrArg Value.bool a5) (y_gtr rfl rfl) ?_
  refine pl_val (.bool ((decide (a_.1 < 1)) || (decide (8 < a_.1)))) (y_pick_f (congrArg Value.bool a5) (congrArg Value.bool (by rw [a5]; rfl))) ?_
  refine pl_val (.bool ((decide (a_.1 < 1)) || (decide (8 < a_.1)))) (y_move rfl) ?_
  rcases Bool.eq_false_or_eq_true (((decide (a_.1 < 1)) || (decide (8 < a_.1)))) with a3 | a3
  ·skip
   refine pl_not (tg := 13) (by kernel_rfl) (congrArg Value.bool a3) ?_
   refine pl_not (tg := 13) (by kernel_rfl) (congrArg Value.bool a3) ?_
   refine pl_not (tg := 13) (by kernel_rfl) (congrArg Value.bool a3) ?_
   refine pl_not (tg := 13) (by kernel_rfl) (congrArg Value.bool a3) ?_
   refine pl_val (.bool (((decide (a_.1 < 1)) || (decide (8 < a_.1))) || (decide (4 < (a_.2.length : Int))))) (y_pick_t (congrArg Value.bool a3) (congrArg Value.bool (by rw [a3]; rfl))) ?_
   refine c_nil ?_
   exact ⟨_, fr_ovl 32 ⟨rfl, rfl, rfl, trivial⟩, hMid⟩
  refine pl_yes (.pointer (some ⟨a1, 1, none⟩)) (tg := 13) (by kernel_rfl) (congrArg Value.bool a3) (y_faddr rfl Fa35x1) ?_
  refine pl_yes (.slice pa0 pn0 pc0) (tg := 13) (by kernel_rfl) (congrArg Value.bool a3) (y_load rfl ((box_load Ag33 Sz33 a0 [(.int .i64 a_.1)] [(.slice pa0 pn0 pc0)] [] rfl rfl (fun _ => rfl)) _ (Chg.refl _ _))) ?_
  refine pl_yes (.int .i64 (a_.2.length : Int)) (tg := 13) (by kernel_rfl) (congrArg Value.bool a3) (y_len' Sl33 (rs_len h0) rfl) ?_
  refine pl_yes (.bool (decide (4 < (a_.2.length : Int)))) (tg := 13) (by kernel_rfl) (congrArg Value.bool a3) (y_gtr rfl rfl) ?_
  refine pl_val (.bool (((decide (a_.1 < 1)) || (decide (8 < a_.1))) || (decide (4 < (a_.2.length : Int))))) (y_pick_f (congrArg Value.bool a3) (congrArg Value.bool (by rw [a3]; rfl))) ?_
  refine c_nil ?_
  exact ⟨_, fr_ovl 32 ⟨rfl, rfl, rfl, trivial⟩, hMid⟩
 rintro c3 c2 ⟨σ, rfl, b5⟩
 have h0 := h0.ext b5
 have a0 := a0.cn b5
 have hC := hC.ext b5
 have hO := hO.ext b5
 rcases bif_some hs with ⟨b8, hs⟩ | ⟨b8, hs⟩
 ·refine c_condT (congrArg Value.bool b8) ?_
  refine c_sr ?_
  refine pl_val (.bool false) (y_assign rfl) ?_
  refine c_nil ?_
  refine wp_ret ?_
  cases hs
  exact ⟨_, fr_ovl 32 ⟨rfl, trivial⟩, hC⟩
 refine c_condF (congrArg Value.bool b8) ?_
 refine wp_skip ?_
 refine c_seq ?_
 refine c_sr ?_
 refine pl_val (.pointer (some ⟨a1, 1, none⟩)) (y_faddr rfl Fa35x1) ?_
 refine pl_val (.slice pa0 pn0 pc0) (y_load rfl ((box_load Ag33 Sz33 a0 [(.int .i64 a_.1)] [(.slice pa0 pn0 pc0)] [] rfl rfl (fun _ => rfl)) _ (Chg.refl _ _))) ?_
 refine pl_val (.int .i64 (a_.2.length : Int)) (y_len' Sl33 (rs_len h0) rfl) ?_
 refine pl_val (.int .i64 0) (y_move rfl) ?_
 refine c_nil ?_
 obtain ⟨o22, d0, hs⟩ := bind_some hs
 refine wp_block ?_
 refine wp_forR (id := 0) (I := fun i_ xs_ s18 a a4 => ∃ a6 : Nat, i_ = (a6 : Int) ∧ List.drop a6 a_.2 = xs_ ∧ (∃ (σ : Nat → Value), a = fr 32 (ovl σ [(1, (.pointer (some ⟨a1, 0, none⟩))), (20, (.slice pa0 pn0 pc0)), (21, (.int .i64 (a_.2.length : Int))), (22, (.int .i64 (a6 : Int)))]) ∧ Chg [] w a4 ∧ Own (Nw w []) M a4 (([a1]) ++ []) ∧ (RT.rs (RT.pr (RT.int .i64) (RT.rs (RT.int .i64)))).val M a4 (.slice pa0 pn0 pc0) a_.2 ([]) ∧ BoxV a4 a1 35 [(.int .i64 a_.1), (.slice pa0 pn0 pc0)])) (J := fun s18 a a4 => ∃ (σ : Nat → Value), a = fr 32 (ovl σ []) ∧ Chg [] w a4 ∧ Own (Nw w []) M a4 (([a1]) ++ []) ∧ (RT.rs (RT.pr (RT.int .i64) (RT.rs (RT.int .i64)))).val M a4 (.slice pa0 pn0 pc0) a_.2 ([]) ∧ BoxV a4 a1 35 [(.int .i64 a_.1), (.slice pa0 pn0 pc0)]) (K := (k_impl_IsAlgebra M w)) ?_ ?_ a_.2 0 () o22 _ _ ?_ d0 ?_
 ·rintro _ s18 a a4 ⟨a6, rfl, hd, σ, rfl, hC, hO, h0, a0⟩
  have hlt := drop_nil_ge hd
  refine c_sr ?_
  refine pl_val (.bool (decide ((a6 : Int) < (a_.2.length : Int)))) (y_lss rfl rfl) ?_
  refine c_nil ?_
  refine c_seq ?_
  refine c_condF (congrArg Value.bool (decide_eq_false hlt)) ?_
  refine wp_exit ?_
  exact ⟨rfl, _, fr_ovl 32 trivial, hC, hO, h0, a0⟩
 ·rintro _ x21 xs_ s18 o22 a a4 ⟨a6, rfl, hd, σ, rfl, hC, hO, h0, a0⟩ hs
  have hlt := drop_cons_lt hd
  have d1 := drop_cons_idx hd
  refine c_sr ?_
  refine pl_val (.bool (decide ((a6 : Int) < (a_.2.length : Int)))) (y_lss rfl rfl) ?_
  refine c_nil ?_
  refine c_seq ?_
  refine c_condT (congrArg Value.bool (decide_eq_true hlt)) ?_
  refine wp_skip ?_
  refine c_seq ?_
  refine wp_block ?_
  refine c_sr ?_
  obtain ⟨d2, d3, d4, b9⟩ := rs_idx Sl33 Sz89 h0 d1
  refine pl_val (.pointer (some ⟨d2, d3, none⟩)) (d4 _ _ _ _ _ _ _ _ _ rfl rfl) ?_
  obtain ⟨e4, d5, d6⟩ := at_load Ag89 Sz89 (by intro h; cases h) b9
  obtain ⟨e5, rfl, d7⟩ := d6
  obtain ⟨e6, e7, rfl, d8, d9⟩ := pr_open d7
  obtain rfl := int_rel d8
  obtain ⟨b0, b1, b2, rfl, a7⟩ := rs_rel d9
  refine pl_val (.agg #[(.int .i64 x21.1), (.slice b0 b1 b2)]) (y_load rfl (d5 _ (Chg.refl _ _))) ?_
  obtain ⟨e0, c4, e1, c5, a8, c6⟩ := new_block a4 [(.int .i64 0), (.slice none 0 0)] 89
  refine pl_val (w' := e0) (.pointer (some ⟨c4, 0, none⟩)) (y_alloc (by rw [e1, c5]; kernel_rfl)) ?_
  have h0 := h0.ext a8
  have a0 := a0.cn a8
  have a7 := a7.ext a8
  have b9 := at_ext b9 a8
  have hC := hC.ext a8
  have hO := hO.new1 a8 c5 c6.lt
  obtain ⟨c7, e2, b3, b4⟩ := box_store (P := Try.prog) c6 [] [(.int .i64 0), (.slice none 0 0)] [] [(.int .i64 x21.1), (.slice b0 b1 b2)] rfl rfl (by intro u hu; simp only [List.mem_cons, List.not_mem_nil, or_false] at hu; rcases hu with rfl | rfl <;> rfl)
  refine pl_skip (w' := c7) (ys_store rfl rfl (e2 _ _ rfl Sz89)) ?_
  have h0 := h0.mt b3 hO same_
  have a0 := a0.ap b3 hO same_ (mem_l (List.mem_singleton.2 rfl))
  have a7 := a7.mt b3 hO same_
  have hC := hC.st b3 hO same_
  have hO := hO.ext b3
  have b4 : BoxV c7 c4 89 [(.int .i64 x21.1), (.slice b0 b1 b2)] := b4
  refine c_nil ?_
  refine c_sr ?_
  refine pl_val (.agg #[(.int .i64 x21.1), (.slice b0 b1 b2)]) (y_load rfl ((box_load Ag89 Sz89 b4 [] [(.int .i64 x21.1), (.slice b0 b1 b2)] [] rfl rfl (fun h => nomatch h)) _ (Chg.refl _ _))) ?_
  refine pl_val (.pointer (some ⟨a1, 0, none⟩)) (y_faddr rfl Fa35x0) ?_
  refine pl_val (.int .i64 a_.1) (y_load rfl ((box_load Ag3 Sz3 a0 [] [(.int .i64 a_.1)] [(.slice pa0 pn0 pc0)] rfl rfl (fun _ => rfl)) _ (Chg.refl _ _))) ?_
  obtain ⟨r30, e3, hs⟩ := bind_some hs
  refine pl_call Bd76 rfl (c_impl_isOp (M := M) (x21.1, x21.2) a_.1 a7 hO.fut e3) ?_
  rintro _ e8 ⟨rfl, a9⟩
  have h0 := h0.ext a9
  have a0 := a0.cn a9
  have a7 := a7.ext a9
  have b4 := b4.cn a9
  have hC := hC.ext a9
  have hO := hO.ext a9
  refine pl_val (.bool (!r30)) (y_not rfl) ?_
  refine c_nil ?_
  rcases bif_some hs with ⟨c0, hs⟩ | ⟨c0, hs⟩
  ·refine c_condT (congrArg Value.bool c0) ?_
   refine c_sr ?_
   refine pl_val (.bool false) (y_assign rfl) ?_
   refine c_nil ?_
   refine wp_ret ?_
   cases hs
   exact ⟨_, fr_ovl 32 ⟨rfl, trivial⟩, hC⟩
  refine c_condF (congrArg Value.bool c0) ?_
  refine wp_skip ?_
  refine c_region ?_
  refine pl_val (.int .i64 (w64 ((a6 : Int) + 1))) (y_add rfl rfl) ?_
  refine pl_val (.int .i64 (w64 ((a6 : Int) + 1))) (y_move rfl) ?_
  refine c_nil ?_
  cases hs
  have hO := hO.drop
  exact ⟨_, rfl, drop_cons_next hd, _, fr_ovl 32 ⟨rfl, rfl, rfl, congrArg (Value.int .i64) (w64_succ hlt (Int.natCast_nonneg _) (rs_max h0)), trivial⟩, hC, hO, h0, a0⟩
 ·skip
  exact ⟨0, rfl, rfl, _, fr_ovl 32 ⟨rfl, rfl, rfl, rfl, trivial⟩, hC, hO, h0, a0⟩
 cases o22 with
 | nx _ => exact True.intro
 | rt r_ =>
  have hs := after_rt hs
  intro c3 c8 hK
  cases hs
  exact hK
 | br s18 =>
  have hs := after_br hs
  rintro c3 a4 ⟨σ, rfl, hC, hO, h0, a0⟩
  refine c_sr ?_
  refine pl_val (.bool true) (y_assign rfl) ?_
  refine c_nil ?_
  refine wp_ret ?_
  cases hs
  exact ⟨_, fr_ovl 32 ⟨rfl, trivial⟩, hC⟩

def k_impl_argsAt (M : Nat → Prop) (w0 : World) (r : (List Int)) (a : Act) (w : World) : Prop :=
  ∃ (σ : Nat → Value) (ra0 : Option Addr) (rn0 rc0 : Nat) (rf0 : List Nat), a = fr 27 (ovl σ [(6, (.slice ra0 rn0 rc0))]) ∧ Chg [] w0 w ∧ (RT.os 3 (RT.int .i64)).val M w (.slice ra0 rn0 rc0) r rf0 ∧ Own (Nw w0 []) (fun _ => True) w (rf0 ++ ([]))
def s_impl_argsAt (i : Int) (k : Int) (n : Int) : Option ((List Int)) :=
  (mks k (0 : Int)).bind fun y2 =>
  (iter (S := Int × Int × (List Int)) (R := (List Int)) (fun s17 =>
  (bif (decide (0 ≤ s17.2.1)) then (nz n).bind fun u26 =>
  (idx s17.2.2 s17.2.1).bind fun x27 =>
  (nz n).bind fun u30 =>
  some (.nx (w64 (Int.tdiv s17.1 n), w64 (s17.2.1 - 1), List.set s17.2.2 (Int.toNat s17.2.1) (Int.tmod s17.1 n))) else some (.br (s17.1, s17.2.1, s17.2.2)))) FU (i, w64 (k - 1), y2)).bind fun o21 => after o21 (fun r_ => some r_) (fun s17 =>
  some s17.2.2)
set_option maxHeartbeats 4000000 in
theorem c_impl_argsAt {M : Nat → Prop} {w : World}  (i : Int) (k : Int) (n : Int)  (hM : ∀ g, w.heap.size ≤ g → M g) {r : (List Int)} (hs : s_impl_argsAt i k n = some r) :
    Gives Try.prog 89 [(.int .i64 i), (.int .i64 k), (.int .i64 n)] w (fun v w' => ∃ (ra0 : Option Addr) (rn0 rc0 : Nat) (rf0 : List Nat), v = (.slice ra0 rn0 rc0) ∧ Chg [] w w' ∧ (RT.os 3 (RT.int .i64)).val M w' (.slice ra0 rn0 rc0) r rf0 ∧ Own (Nw w []) (fun _ => True) w' (rf0 ++ ([]))) := by
 refine calls_fr Try.func89 rfl Try.ntmps89 (Nat.le_of_ble_eq_true rfl) ?_
 have hO := Own.start (N := Nw w []) hM Nw.fut
 have hC := Chg.refl [] w
 unfold s_impl_argsAt at hs
 refine wp_mono (Q := KPost (k_impl_argsAt M w r)) ?_ (fun e a a7 h => ?_)
 rotate_left
 ·cases e
  case ret =>
   obtain ⟨σ, ra0, rn0, rc0, rf0, rfl, hrest⟩ := h
   exact ret1x Try.results89 (res_tmp rfl) ⟨ra0, rn0, rc0, rf0, rfl, hrest⟩
  all_goals exact (h : False).elim
 refine c_sr ?_
 refine pl_val (.slice none 0 0) (y_assign rfl) ?_
 refine c_nil ?_
 refine c_sr ?_
 refine pl_val (.int .i64 k) (y_move rfl) ?_
 obtain ⟨y2, b5, hs⟩ := bind_some hs
 obtain ⟨a0, a1, a2, a7, b6, b7, b1, b8, a8⟩ := mk_os (M := M) (w := w) (r := (RT.int .i64)) Rw43 b5 (fun _ _ => ⟨rfl, rfl⟩)
 refine pl_val (w' := a7) (.slice a0 a1 a2) (y_make rfl rfl b7) ?_
 have hC := hC.ext b1
 have hO := hO.new b1 b8 (os_nodup a8) a8.fpl
 refine pl_val (.slice a0 a1 a2) (y_assign rfl) ?_
 refine c_nil ?_
 refine c_seq ?_
 refine c_sr ?_
 refine pl_val (.int .i64 k) (y_move rfl) ?_
 refine pl_val (.int .i64 (w64 (k - 1))) (y_sub rfl rfl) ?_
 refine pl_val (.int .i64 (w64 (k - 1))) (y_assign rfl) ?_
 refine c_nil ?_
 obtain ⟨o21, b9, hs⟩ := bind_some hs
 refine wp_block ?_
 refine wp_iter (id := 0) (I := fun s17 a a3 => ∃ (σ : Nat → Value) (a4 : List Nat), a = fr 27 (ovl σ [(0, (.int .i64 s17.1)), (2, (.int .i64 n)), (7, (.slice a0 a1 a2)), (8, (.int .i64 s17.2.1))]) ∧ Chg [] w a3 ∧ Own (Nw w []) M a3 (a4 ++ []) ∧ (RT.os 3 (RT.int .i64)).val M a3 (.slice a0 a1 a2) s17.2.2 a4) (J := fun s17 a a3 => ∃ (σ : Nat → Value) (a6 : List Nat), a = fr 27 (ovl σ [(7, (.slice a0 a1 a2))]) ∧ Chg [] w a3 ∧ Own (Nw w []) M a3 (a6 ++ []) ∧ (RT.os 3 (RT.int .i64)).val M a3 (.slice a0 a1 a2) s17.2.2 a6) (K := (k_impl_argsAt M w)) ?_ FU (i, w64 (k - 1), y2) o21 _ _ ?_ b9 ?_
 ·rintro s17 o21 a a3 ⟨σ, a4, rfl, hC, hO, a5⟩ hs
  refine c_seq ?_
  refine c_sr ?_
  refine pl_val (.int .i64 s17.2.1) (y_move rfl) ?_
  refine pl_val (.bool (decide (0 ≤ s17.2.1))) (y_geq rfl rfl) ?_
  refine c_nil ?_
  rcases bif_some hs with ⟨a9, hs⟩ | ⟨a9, hs⟩
  ·refine c_condT (congrArg Value.bool a9) ?_
   refine wp_skip ?_
   refine c_seq ?_
   refine wp_block ?_
   refine c_sr ?_
   refine pl_val (.slice a0 a1 a2) (y_move rfl) ?_
   refine pl_val (.int .i64 s17.2.1) (y_move rfl) ?_
   refine pl_val (.int .i64 s17.1) (y_move rfl) ?_
   refine pl_val (.int .i64 n) (y_move rfl) ?_
   obtain ⟨u26, c0, hs⟩ := bind_some hs
   refine pl_val (.int .i64 (Int.tmod s17.1 n)) (y_rem rfl rfl (nz_ne c0)) ?_
   obtain ⟨x27, c1, hs⟩ := bind_some hs
   obtain ⟨b2, d1, b3, c2, c3, d2, d3⟩ := os_idx Sl43 Sz3 a5 c1
   refine pl_val (.pointer (some ⟨b2, 0 + Int.toNat s17.2.1 * 1, none⟩)) (c3 _ _ _ _ _ _ _ _ _ rfl rfl) ?_
   obtain ⟨c4, c5, c6, b4, c7, b0⟩ := os_store (P := Try.prog) (c' := [(.int .i64 (Int.tmod s17.1 n))]) b3 a5 c2 (fun g hg => hO.inM g (os_block a5 g (by simpa using hg))) ⟨rfl, rfl⟩ List.nodup_nil (fun _ h => nomatch h) (fun _ h => .inl h)
   have c8 : ∀ q ∈ [b2], q ∈ a4 := fun q hq => os_block a5 q (by rw [b3]; exact hq)
   refine pl_skip (w' := c4) (ys_store rfl rfl (c6 _ _ rfl Sz3)) ?_
   have hC := hC.st b4 hO c8
   have hO := hO.grow b4 (fun q hq => .inl ((c7 q hq).resolve_right (fun h => nomatch h))) (os_nodup b0) b0.fpl
   refine c_nil ?_
   refine c_region ?_
   refine pl_val (.int .i64 s17.1) (y_move rfl) ?_
   refine pl_val (.int .i64 n) (y_move rfl) ?_
   obtain ⟨u30, c9, hs⟩ := bind_some hs
   refine pl_val (.int .i64 (w64 (Int.tdiv s17.1 n))) (y_quo rfl rfl (nz_ne c9)) ?_
   refine pl_val (.int .i64 (w64 (Int.tdiv s17.1 n))) (y_assign rfl) ?_
   refine c_nil ?_
   refine c_region ?_
   refine pl_val (.int .i64 s17.2.1) (y_move rfl) ?_
   refine pl_val (.int .i64 (w64 (s17.2.1 - 1))) (y_sub rfl rfl) ?_
   refine pl_val (.int .i64 (w64 (s17.2.1 - 1))) (y_assign rfl) ?_
   refine c_nil ?_
   cases hs
   exact ⟨_, c5, fr_ovl 27 ⟨rfl, rfl, rfl, rfl, trivial⟩, hC, hO, b0⟩
  refine c_condF (congrArg Value.bool a9) ?_
  refine wp_exit ?_
  cases hs
  exact ⟨rfl, _, a4, fr_ovl 27 ⟨rfl, trivial⟩, hC, hO, a5⟩
 ·skip
  exact ⟨_, b6, fr_ovl 27 ⟨rfl, rfl, rfl, rfl, trivial⟩, hC, hO, a8⟩
 cases o21 with
 | nx _ => exact True.intro
 | rt r_ =>
  have hs := after_rt hs
  intro a0 a7 hK
  cases hs
  exact hK
 | br s17 =>
  have hs := after_br hs
  rintro a0 a3 ⟨σ, a6, rfl, hC, hO, d0⟩
  refine c_sr ?_
  refine pl_val (.slice a0 a1 a2) (y_move rfl) ?_
  refine pl_val (.slice a0 a1 a2) (y_assign rfl) ?_
  refine c_nil ?_
  refine wp_ret ?_
  cases hs
  exact ⟨_, a0, a1, a2, a6, fr_ovl 27 ⟨rfl, trivial⟩, hC, d0, hO.top⟩

end Go.Proofs
