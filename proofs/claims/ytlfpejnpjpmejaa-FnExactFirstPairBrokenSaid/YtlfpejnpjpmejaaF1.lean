/- What functions of the program compute, as plain functions, and that a call gives just that. Conditions: those named in each theorem. -/
import Derived.Test.YtlfpejnpjpmejaaF0
set_option linter.unusedVariables false
namespace Go.Proofs
open Go.G Go.RowKit
set_option maxRecDepth 100000

def k_spec_l8Close (M : Nat → Prop) (w0 : World) (r : (List (List Int)) × Bool) (a : Act) (w : World) : Prop :=
  ∃ (σ : Nat → Value) (ra0 : Option Addr) (rn0 rc0 : Nat), a = fr 172 (ovl σ [(6, (.slice ra0 rn0 rc0)), (7, (.bool r.2))]) ∧ Chg [] w0 w ∧ (RT.rs (RT.rs (RT.int .i64))).val (Past M w0 w) w (.slice ra0 rn0 rc0) r.1 []
def s_spec_l8Close (a_ : Int × (List (Int × (List Int)))) (k : Int) (gens : List (List Int)) : Option ((List (List Int)) × Bool) :=
  (s_spec_l8Most (a_.1, a_.2)).bind fun r9 =>
  (forC (S := (List (List Int))) (R := (List (List Int)) × Bool) (fun k28 s26 =>
  (idx gens k28).bind fun x36 =>
  (s_spec_l1Own x36).bind fun r41 =>
  (app s26 ([r41])).bind fun y46 =>
  some (.nx y46)) 0 (gens.length : Int) ([])).bind fun o30 => after o30 (fun r_ => some r_) (fun s26 =>
  (forC (S := (List (List Int))) (R := (List (List Int)) × Bool) (fun k66 s64 =>
  (idx a_.2 k66).bind fun x74 =>
  (bif (x74.1 == 0) then (s_spec_l8Apply (a_.1, a_.2) k66 ([]) k).bind fun r81 =>
  (app s64 ([r81])).bind fun y86 =>
  some (.nx y86) else some (.nx s64))) 0 (a_.2.length : Int) s26).bind fun o68 => after o68 (fun r_ => some r_) (fun s64 =>
  (iter (S := (List (List Int)) × (List (List Int)) × Int) (R := (List (List Int)) × Bool) (fun s249 =>
  (bif (decide (s249.2.2 < (s64.length : Int))) then (idx s64 s249.2.2).bind fun x266 =>
  (s_spec_l8Find s249.1 x266).bind fun r271 =>
  (bif (!r271.2) then (idx s64 s249.2.2).bind fun x273 =>
  (s_spec_l8Put s249.1 x273).bind fun r278 =>
  (idx s64 s249.2.2).bind fun x280 =>
  (app s249.2.1 ([x280])).bind fun y287 =>
  some (.nx (r278, y287, w64 (s249.2.2 + 1))) else some (.nx (s249.1, s249.2.1, w64 (s249.2.2 + 1)))) else some (.br (s249.1, s249.2.1, s249.2.2)))) FU ([], [], 0)).bind fun o253 => after o253 (fun r_ => some r_) (fun s249 =>
  (iter (S := (List (List Int)) × (List (List Int)) × Int) (R := (List (List Int)) × Bool) (fun s2566 =>
  (bif ((decide (s2566.2.2 < (s2566.2.1.length : Int))) && (decide ((s2566.2.1.length : Int) ≤ r9))) then (forC (S := (List (List Int)) × (List (List Int))) (R := (List (List Int)) × Bool) (fun k3334 s3332 =>
  (idx a_.2 k3334).bind fun x3359 =>
  (idx a_.2 k3334).bind fun x3362 =>
  (mks x3359.1 (0 : Int)).bind fun y3366 =>
  (iter (S := (List (List Int)) × (List (List Int)) × (List Int) × Bool) (R := (List (List Int)) × Bool) (fun s3591 =>
  (bif (s3591.2.2.2 && (decide ((s3591.2.1.length : Int) ≤ r9))) then (s_spec_l1Has s3591.2.2.1 s2566.2.2).bind fun r3617 =>
  (bif r3617 then (s_spec_l8Choose__sh s3591.2.1 s3591.2.2.1).bind fun r3695 =>
  (s_spec_l8Apply (a_.1, a_.2) k3334 r3695 k).bind fun r3698 =>
  (s_spec_l8Find s3591.1 r3698).bind fun r3701 =>
  (bif (!r3701.2) then (s_spec_l8Put s3591.1 r3698).bind fun r3705 =>
  (app s3591.2.1 ([r3698])).bind fun y3710 =>
  some (r3705, y3710, s3591.2.2.1) else some (s3591.1, s3591.2.1, s3591.2.2.1)) else some (s3591.1, s3591.2.1, s3591.2.2.1)).bind fun s3674 =>
  (s_spec_l8Next s3674.2.2 (w64 (s2566.2.2 + 1))).bind fun r3714 =>
  some (.nx (s3674.1, s3674.2.1, r3714.1, r3714.2)) else some (.br (s3591.1, s3591.2.1, s3591.2.2.1, s3591.2.2.2)))) FU (s3332.1, s3332.2, y3366, (decide (0 < x3362.1)))).bind fun o3595 => after o3595 (fun r_ => some (.rt r_)) (fun s3591 =>
  some (.nx (s3591.1, s3591.2.1)))) 0 (a_.2.length : Int) (s2566.1, s2566.2.1)).bind fun o3336 => after o3336 (fun r_ => some (.rt r_)) (fun s3332 =>
  some (.nx (s3332.1, s3332.2, w64 (s2566.2.2 + 1)))) else some (.br (s2566.1, s2566.2.1, s2566.2.2)))) FU (s249.1, s249.2.1, 0)).bind fun o2570 => after o2570 (fun r_ => some r_) (fun s2566 =>
  some (s2566.1, (decide ((s2566.1.length : Int) ≤ r9)))))))
set_option maxHeartbeats 4000000 in
theorem c_spec_l8Close {M : Nat → Prop} {w : World} {pa0 : Option Addr} {pn0 pc0 : Nat} {pa1 : Option Addr} {pn1 pc1 : Nat} (a_ : Int × (List (Int × (List Int)))) (k : Int) (gens : List (List Int)) (h0 : (RT.rs (RT.pr (RT.int .i64) (RT.rs (RT.int .i64)))).val M w (.slice pa0 pn0 pc0) a_.2 ([])) (h1 : (RT.rs (RT.rs (RT.int .i64))).val M w (.slice pa1 pn1 pc1) gens ([])) (hM : ∀ g, w.heap.size ≤ g → M g) {r : (List (List Int)) × Bool} (hs : s_spec_l8Close a_ k gens = some r) :
    Gives Try.prog 69 [(.agg #[(.int .i64 a_.1), (.slice pa0 pn0 pc0)]), (.int .i64 k), (.slice pa1 pn1 pc1)] w (fun v w' => ∃ (ra0 : Option Addr) (rn0 rc0 : Nat), v = (.tuple #[(.slice ra0 rn0 rc0), (.bool r.2)]) ∧ Chg [] w w' ∧ (RT.rs (RT.rs (RT.int .i64))).val (Past M w w') w' (.slice ra0 rn0 rc0) r.1 []) := by
 refine calls_fr Try.func69 rfl Try.ntmps69 (Nat.le_of_ble_eq_true rfl) ?_
 have hO := Own.start (N := Nw w []) hM Nw.fut
 have hC := Chg.refl [] w
 unfold s_spec_l8Close at hs
 refine wp_mono (Q := KPost (k_spec_l8Close M w r)) ?_ (fun e a k5 h => ?_)
 rotate_left
 ·cases e
  case ret =>
   obtain ⟨σ, ra0, rn0, rc0, rfl, hrest⟩ := h
   exact ret2x Try.results69 (res_tmp rfl) (res_tmp rfl) ⟨ra0, rn0, rc0, rfl, hrest⟩
  all_goals exact (h : False).elim
 refine c_sr ?_
 obtain ⟨y6, a1, E2, y7, o5, a0⟩ := new_block w [(.int .i64 a_.1), (.slice pa0 pn0 pc0)] 34
 refine pl_val (w' := y6) (.pointer (some ⟨a1, 0, none⟩)) (y_box rfl (by rw [E2, y7]; kernel_rfl)) ?_
 have h0 := h0.ext o5
 have h1 := h1.ext o5
 have hC := hC.ext o5
 have hO := hO.new1 o5 y7 a0.lt
 refine pl_val (.slice none 0 0) (y_assign rfl) ?_
 refine pl_val (.bool false) (y_assign rfl) ?_
 refine c_nil ?_
 refine c_sr ?_
 obtain ⟨t0, a6, E3, y8, n4, y9⟩ := new_block y6 [] 25
 refine pl_val (w' := t0) (.slice (some ⟨a6, 0, none⟩) 0 0) (y_bslice rfl (by rw [E3, y8]; kernel_rfl)) ?_
 have h0 := h0.ext n4
 have h1 := h1.ext n4
 have a0 := a0.cn n4
 have hC := hC.ext n4
 have hO := hO.new1 n4 y8 y9.lt
 have a2 := os_of_box (r := (RT.os 3 (RT.int .i64))) (M := M) (css := []) (fps := []) (xs := ([] : List (List Int))) y9 trivial (Nat.zero_le _) (List.nodup_cons.2 ⟨(fun h => nomatch h), List.nodup_nil⟩)
 have a2 : (RT.os 25 (RT.os 3 (RT.int .i64))).val M t0 (.slice (some ⟨a6, 0, none⟩) 0 0) [] [a6] := a2
 obtain ⟨z0, a7, E4, z1, k6, z2⟩ := new_block t0 [] 25
 refine pl_val (w' := z0) (.slice (some ⟨a7, 0, none⟩) 0 0) (y_bslice rfl (by rw [E4, z1]; kernel_rfl)) ?_
 have h0 := h0.ext k6
 have h1 := h1.ext k6
 have a0 := a0.cn k6
 have a2 := a2.ext k6
 have hC := hC.ext k6
 have hO := hO.new1 k6 z1 z2.lt
 have a3 := os_of_box (r := (RT.os 3 (RT.int .i64))) (M := M) (css := []) (fps := []) (xs := ([] : List (List Int))) z2 trivial (Nat.zero_le _) (List.nodup_cons.2 ⟨(fun h => nomatch h), List.nodup_nil⟩)
 have a3 : (RT.os 25 (RT.os 3 (RT.int .i64))).val M z0 (.slice (some ⟨a7, 0, none⟩) 0 0) [] [a7] := a3
 refine pl_val (.agg #[(.int .i64 a_.1), (.slice pa0 pn0 pc0)]) (y_load rfl ((box_load Ag34 Sz34 a0 [] [(.int .i64 a_.1), (.slice pa0 pn0 pc0)] [] rfl rfl (fun h => nomatch h)) _ (Chg.refl _ _))) ?_
 obtain ⟨r9, E5, hs⟩ := bind_some hs
 refine pl_call Bd81 rfl (c_spec_l8Most (M := M) (a_.1, a_.2) h0 hO.fut E5) ?_
 rintro _ E6 ⟨rfl, h6⟩
 have h0 := h0.ext h6
 have h1 := h1.ext h6
 have a0 := a0.cn h6
 have a2 := a2.ext h6
 have a3 := a3.ext h6
 have hC := hC.ext h6
 have hO := hO.ext h6
 refine pl_val (.slice (some ⟨a6, 0, none⟩) 0 0) (y_assign rfl) ?_
 refine pl_val (.slice (some ⟨a7, 0, none⟩) 0 0) (y_assign rfl) ?_
 refine pl_val (.int .i64 r9) (y_assign rfl) ?_
 refine c_nil ?_
 refine c_sr ?_
 obtain ⟨z3, k7, E7, z4, h7, z5⟩ := new_block E6 [] 25
 refine pl_val (w' := z3) (.slice (some ⟨k7, 0, none⟩) 0 0) (y_bslice rfl (by rw [E7, z4]; kernel_rfl)) ?_
 have h0 := h0.ext h7
 have h1 := h1.ext h7
 have a0 := a0.cn h7
 have a2 := a2.ext h7
 have a3 := a3.ext h7
 have hC := hC.ext h7
 have hO := hO.new1 h7 z4 z5.lt
 have t1 := os_of_box (r := (RT.os 3 (RT.int .i64))) (M := M) (css := []) (fps := []) (xs := ([] : List (List Int))) z5 trivial (Nat.zero_le _) (List.nodup_cons.2 ⟨(fun h => nomatch h), List.nodup_nil⟩)
 have t1 : (RT.os 25 (RT.os 3 (RT.int .i64))).val M z3 (.slice (some ⟨k7, 0, none⟩) 0 0) [] [k7] := t1
 refine pl_val (.slice (some ⟨k7, 0, none⟩) 0 0) (y_assign rfl) ?_
 refine c_nil ?_
 refine c_seq ?_
 refine c_sr ?_
 refine pl_val (.int .i64 0) (y_assign rfl) ?_
 refine c_nil ?_
 obtain ⟨o30, E8, hs⟩ := bind_some hs
 refine wp_block ?_
 refine wp_forC (id := 0) (gens.length : Int) (I := fun k28 s26 a b0 => ∃ (σ : Nat → Value) (k8 : Option Addr) (k9 : Nat) (l0 : Nat) (h8 : List Nat), a = fr 172 (ovl σ [(1, (.int .i64 k)), (2, (.slice pa1 pn1 pc1)), (3, (.pointer (some ⟨a1, 0, none⟩))), (8, (.slice (some ⟨a6, 0, none⟩) 0 0)), (9, (.slice (some ⟨a7, 0, none⟩) 0 0)), (10, (.int .i64 r9)), (11, (.slice k8 k9 l0)), (12, (.int .i64 k28))]) ∧ Chg [] w b0 ∧ Own (Nw w []) M b0 (h8 ++ (([a7]) ++ (([a6]) ++ (([a1]) ++ [])))) ∧ (RT.rs (RT.pr (RT.int .i64) (RT.rs (RT.int .i64)))).val M b0 (.slice pa0 pn0 pc0) a_.2 ([]) ∧ (RT.rs (RT.rs (RT.int .i64))).val M b0 (.slice pa1 pn1 pc1) gens ([]) ∧ BoxV b0 a1 34 [(.int .i64 a_.1), (.slice pa0 pn0 pc0)] ∧ (RT.os 25 (RT.os 3 (RT.int .i64))).val M b0 (.slice (some ⟨a6, 0, none⟩) 0 0) ([]) ([a6]) ∧ (RT.os 25 (RT.os 3 (RT.int .i64))).val M b0 (.slice (some ⟨a7, 0, none⟩) 0 0) ([]) ([a7]) ∧ (RT.os 25 (RT.os 3 (RT.int .i64))).val M b0 (.slice k8 k9 l0) s26 h8) (J := fun s26 a b0 => ∃ (σ : Nat → Value) (o6 : Option Addr) (o7 : Nat) (o8 : Nat) (o9 : List Nat), a = fr 172 (ovl σ [(1, (.int .i64 k)), (3, (.pointer (some ⟨a1, 0, none⟩))), (8, (.slice (some ⟨a6, 0, none⟩) 0 0)), (9, (.slice (some ⟨a7, 0, none⟩) 0 0)), (10, (.int .i64 r9)), (11, (.slice o6 o7 o8))]) ∧ Chg [] w b0 ∧ Own (Nw w []) M b0 (o9 ++ (([a7]) ++ (([a6]) ++ (([a1]) ++ [])))) ∧ (RT.rs (RT.pr (RT.int .i64) (RT.rs (RT.int .i64)))).val M b0 (.slice pa0 pn0 pc0) a_.2 ([]) ∧ (RT.rs (RT.rs (RT.int .i64))).val M b0 (.slice pa1 pn1 pc1) gens ([]) ∧ BoxV b0 a1 34 [(.int .i64 a_.1), (.slice pa0 pn0 pc0)] ∧ (RT.os 25 (RT.os 3 (RT.int .i64))).val M b0 (.slice (some ⟨a6, 0, none⟩) 0 0) ([]) ([a6]) ∧ (RT.os 25 (RT.os 3 (RT.int .i64))).val M b0 (.slice (some ⟨a7, 0, none⟩) 0 0) ([]) ([a7]) ∧ (RT.os 25 (RT.os 3 (RT.int .i64))).val M b0 (.slice o6 o7 o8) s26 o9) (K := (k_spec_l8Close M w)) ?_ ?_ 0 ([]) o30 _ _ ?_ E8 ?_
 ·rintro k28 s26 a b0 ⟨σ, k8, k9, l0, h8, rfl, hC, hO, h0, h1, a0, a2, a3, f4⟩ hlt
  refine c_seq ?_
  refine c_sr ?_
  refine pl_val (.int .i64 k28) (y_move rfl) ?_
  refine pl_val (.slice pa1 pn1 pc1) (y_move rfl) ?_
  refine pl_val (.int .i64 (gens.length : Int)) (y_len' Sl49 (rs_len h1) rfl) ?_
  refine pl_val (.bool (decide (k28 < (gens.length : Int)))) (y_lss rfl rfl) ?_
  refine c_nil ?_
  refine c_condF (congrArg Value.bool (decide_eq_false hlt)) ?_
  refine wp_exit ?_
  have hO := hO.fr3
  have hO := hO.fr3
  have hO := hO.fr3
  have hO := hO.fr3
  exact ⟨rfl, _, k8, k9, l0, h8, fr_ovl 172 ⟨rfl, rfl, rfl, rfl, rfl, rfl, trivial⟩, hC, hO, h0, h1, a0, a2, a3, f4⟩
 ·rintro k28 s26 o30 a b0 ⟨σ, k8, k9, l0, h8, rfl, hC, hO, h0, h1, a0, a2, a3, f4⟩ hlt hw hs
  refine c_seq ?_
  refine c_sr ?_
  refine pl_val (.int .i64 k28) (y_move rfl) ?_
  refine pl_val (.slice pa1 pn1 pc1) (y_move rfl) ?_
  refine pl_val (.int .i64 (gens.length : Int)) (y_len' Sl49 (rs_len h1) rfl) ?_
  refine pl_val (.bool (decide (k28 < (gens.length : Int)))) (y_lss rfl rfl) ?_
  refine c_nil ?_
  refine c_condT (congrArg Value.bool (decide_eq_true hlt)) ?_
  refine wp_skip ?_
  refine c_seq ?_
  refine wp_block ?_
  refine c_region ?_
  refine pl_val (.slice k8 k9 l0) (y_move rfl) ?_
  refine pl_val (.slice pa1 pn1 pc1) (y_move rfl) ?_
  refine pl_val (.int .i64 k28) (y_move rfl) ?_
  obtain ⟨x36, E9, hs⟩ := bind_some hs
  obtain ⟨F0, F1, F2, F3⟩ := rs_idx Sl49 Sz25 h1 E9
  refine pl_val (.pointer (some ⟨F0, F1, none⟩)) (F2 _ _ _ _ _ _ _ _ _ rfl rfl) ?_
  obtain ⟨Q6, F4, f5⟩ := at_load Ag25 Sz25 (fun _ => rfl) F3
  obtain ⟨F5, F6, F7, rfl⟩ := rs_sl f5
  refine pl_val (.slice F5 F6 F7) (y_load rfl (F4 _ (Chg.refl _ _))) ?_
  obtain ⟨r41, F8, hs⟩ := bind_some hs
  refine pl_call Bd82 rfl (c_spec_l1Own (M := M) x36 f5 hO.fut F8) ?_
  rintro _ F9 ⟨z6, z7, z8, p0, rfl, e2, t2, G0⟩
  have h0 := h0.ext e2
  have h1 := h1.ext e2
  have a0 := a0.cn e2
  have a2 := a2.ext e2
  have a3 := a3.ext e2
  have f4 := f4.ext e2
  have f5 := f5.ext e2
  have hC := hC.ext e2
  have hO := Own.join0 hO e2 G0
  have hO := hO.perm (R := p0 ++ (h8 ++ (([a7]) ++ (([a6]) ++ (([a1]) ++ ([])))))) (by simp)
  obtain ⟨z9, p1, G1, A0, c5, A1⟩ := new_block F9 [(.slice z6 z7 z8)] 25
  refine pl_val (w' := z9) (.slice (some ⟨p1, 0, none⟩) 1 1) (y_bslice rfl (by rw [G1, A0]; kernel_rfl)) ?_
  have h0 := h0.ext c5
  have h1 := h1.ext c5
  have a0 := a0.cn c5
  have a2 := a2.ext c5
  have a3 := a3.ext c5
  have f4 := f4.ext c5
  have f5 := f5.ext c5
  have t2 := t2.ext c5
  have hC := hC.ext c5
  have hO := hO.new1 c5 A0 A1.lt
  have hO := hO.perm (R := (p1 :: ((p0) ++ ([]))) ++ (h8 ++ (([a7]) ++ (([a6]) ++ (([a1]) ++ ([])))))) (by simp)
  have G2 := hO.nd
  have t3 := os_of_box (r := (RT.os 3 (RT.int .i64))) (M := M) (css := [[(.slice z6 z7 z8)]]) (fps := [(p0 : List Nat)]) (xs := ([r41] : List (List Int))) A1 ⟨(os_unval t2), trivial⟩ (Nat.le_of_ble_eq_true rfl) G2
  have t3 : (RT.os 25 (RT.os 3 (RT.int .i64))).val M z9 (.slice (some ⟨p1, 0, none⟩) 1 1) [r41] (p1 :: ((p0) ++ ([]))) := t3
  obtain ⟨y46, G3, hs⟩ := bind_some hs
  have hO := hO.fr1
  obtain ⟨t4, t5, t6, G4, G5, G6, f6, G7, t7⟩ := app_os Rw49 G3 f4 t3 hO.inM (fun g hg hq => hO.apart g hq (mem_l hg))
  have h9 := os_block f4
  refine pl_val (w' := G4) (.slice t4 t5 t6) (y_append rfl rfl (G6 _)) ?_
  have hO := hO.fr1
  have hO := hO.fr1
  have h0 := h0.mt f6 hO h9
  have h1 := h1.mt f6 hO h9
  have a0 := a0.ap f6 hO h9 (mem_r (mem_r (mem_r (mem_l (List.mem_singleton.2 rfl)))))
  have a2 := a2.ma f6 hO h9 (fun _ e => (mem_r (mem_r (mem_l (e)))))
  have a3 := a3.ma f6 hO h9 (fun _ e => (mem_r (mem_l (e))))
  have f5 := f5.mt f6 hO h9
  have hC := hC.st f6 hO h9
  have hO := hO.eat f6 G7 (os_nodup t7) t7.fpl
  refine pl_val (.slice t4 t5 t6) (y_assign rfl) ?_
  refine c_nil ?_
  refine c_region ?_
  refine pl_val (.int .i64 k28) (y_move rfl) ?_
  refine pl_val (.int .i64 (w64 (k28 + 1))) (y_add rfl rfl) ?_
  refine pl_val (.int .i64 (w64 (k28 + 1))) (y_assign rfl) ?_
  refine c_nil ?_
  cases hs
  have hO := hO.fr3
  have hO := hO.fr3
  have hO := hO.fr3
  have hO := hO.fr3
  exact ⟨_, t4, t5, t6, G5, fr_ovl 172 ⟨rfl, rfl, rfl, rfl, rfl, rfl, rfl, congrArg (Value.int .i64) hw, trivial⟩, hC, hO, h0, h1, a0, a2, a3, t7⟩
 ·skip
  have hO := hO.fr3
  have hO := hO.fr3
  have hO := hO.fr3
  have hO := hO.fr3
  exact ⟨_, (some ⟨k7, 0, none⟩), 0, 0, ([k7]), fr_ovl 172 ⟨rfl, rfl, rfl, rfl, rfl, rfl, rfl, rfl, trivial⟩, hC, hO, h0, h1, a0, a2, a3, t1⟩
 cases o30 with
 | nx _ => exact True.intro
 | rt r_ =>
  have hs := after_rt hs
  intro b8 k5 hK
  cases hs
  exact hK
 | br s26 =>
  have hs := after_br hs
  rintro b8 b0 ⟨σ, o6, o7, o8, o9, rfl, hC, hO, h0, h1, a0, a2, a3, G8⟩
  refine c_seq ?_
  refine c_sr ?_
  refine pl_val (.int .i64 0) (y_assign rfl) ?_
  refine c_nil ?_
  obtain ⟨o68, G9, hs⟩ := bind_some hs
  refine wp_block ?_
  refine wp_forC (id := 2) (a_.2.length : Int) (I := fun k66 s64 a b2 => ∃ (σ : Nat → Value) (i0 : Option Addr) (i1 : Nat) (i2 : Nat) (f7 : List Nat), a = fr 172 (ovl σ [(1, (.int .i64 k)), (3, (.pointer (some ⟨a1, 0, none⟩))), (8, (.slice (some ⟨a6, 0, none⟩) 0 0)), (9, (.slice (some ⟨a7, 0, none⟩) 0 0)), (10, (.int .i64 r9)), (11, (.slice i0 i1 i2)), (13, (.int .i64 k66))]) ∧ Chg [] w b2 ∧ Own (Nw w []) M b2 (f7 ++ (([a7]) ++ (([a6]) ++ (([a1]) ++ [])))) ∧ (RT.rs (RT.pr (RT.int .i64) (RT.rs (RT.int .i64)))).val M b2 (.slice pa0 pn0 pc0) a_.2 ([]) ∧ BoxV b2 a1 34 [(.int .i64 a_.1), (.slice pa0 pn0 pc0)] ∧ (RT.os 25 (RT.os 3 (RT.int .i64))).val M b2 (.slice (some ⟨a6, 0, none⟩) 0 0) ([]) ([a6]) ∧ (RT.os 25 (RT.os 3 (RT.int .i64))).val M b2 (.slice (some ⟨a7, 0, none⟩) 0 0) ([]) ([a7]) ∧ (RT.os 25 (RT.os 3 (RT.int .i64))).val M b2 (.slice i0 i1 i2) s64 f7) (J := fun s64 a b2 => ∃ (σ : Nat → Value) (c6 : Option Addr) (c7 : Nat) (c8 : Nat) (t8 : List Nat), a = fr 172 (ovl σ [(1, (.int .i64 k)), (3, (.pointer (some ⟨a1, 0, none⟩))), (8, (.slice (some ⟨a6, 0, none⟩) 0 0)), (9, (.slice (some ⟨a7, 0, none⟩) 0 0)), (10, (.int .i64 r9)), (11, (.slice c6 c7 c8))]) ∧ Chg [] w b2 ∧ Own (Nw w []) M b2 (t8 ++ (([a7]) ++ (([a6]) ++ (([a1]) ++ [])))) ∧ (RT.rs (RT.pr (RT.int .i64) (RT.rs (RT.int .i64)))).val M b2 (.slice pa0 pn0 pc0) a_.2 ([]) ∧ BoxV b2 a1 34 [(.int .i64 a_.1), (.slice pa0 pn0 pc0)] ∧ (RT.os 25 (RT.os 3 (RT.int .i64))).val M b2 (.slice (some ⟨a6, 0, none⟩) 0 0) ([]) ([a6]) ∧ (RT.os 25 (RT.os 3 (RT.int .i64))).val M b2 (.slice (some ⟨a7, 0, none⟩) 0 0) ([]) ([a7]) ∧ (RT.os 25 (RT.os 3 (RT.int .i64))).val M b2 (.slice c6 c7 c8) s64 t8) (K := (k_spec_l8Close M w)) ?_ ?_ 0 s26 o68 _ _ ?_ G9 ?_
  ·rintro k66 s64 a b2 ⟨σ, i0, i1, i2, f7, rfl, hC, hO, h0, a0, a2, a3, c3⟩ hlt
   refine c_seq ?_
   refine c_sr ?_
   refine pl_val (.int .i64 k66) (y_move rfl) ?_
   refine pl_val (.pointer (some ⟨a1, 1, none⟩)) (y_faddr rfl Fa34x1) ?_
   refine pl_val (.slice pa0 pn0 pc0) (y_load rfl ((box_load Ag32 Sz32 a0 [(.int .i64 a_.1)] [(.slice pa0 pn0 pc0)] [] rfl rfl (fun _ => rfl)) _ (Chg.refl _ _))) ?_
   refine pl_val (.int .i64 (a_.2.length : Int)) (y_len' Sl32 (rs_len h0) rfl) ?_
   refine pl_val (.bool (decide (k66 < (a_.2.length : Int)))) (y_lss rfl rfl) ?_
   refine c_nil ?_
   refine c_condF (congrArg Value.bool (decide_eq_false hlt)) ?_
   refine wp_exit ?_
   have hO := hO.fr3
   have hO := hO.fr3
   have hO := hO.fr3
   have hO := hO.fr3
   exact ⟨rfl, _, i0, i1, i2, f7, fr_ovl 172 ⟨rfl, rfl, rfl, rfl, rfl, rfl, trivial⟩, hC, hO, h0, a0, a2, a3, c3⟩
  ·rintro k66 s64 o68 a b2 ⟨σ, i0, i1, i2, f7, rfl, hC, hO, h0, a0, a2, a3, c3⟩ hlt hw hs
   refine c_seq ?_
   refine c_sr ?_
   refine pl_val (.int .i64 k66) (y_move rfl) ?_
   refine pl_val (.pointer (some ⟨a1, 1, none⟩)) (y_faddr rfl Fa34x1) ?_
   refine pl_val (.slice pa0 pn0 pc0) (y_load rfl ((box_load Ag32 Sz32 a0 [(.int .i64 a_.1)] [(.slice pa0 pn0 pc0)] [] rfl rfl (fun _ => rfl)) _ (Chg.refl _ _))) ?_
   refine pl_val (.int .i64 (a_.2.length : Int)) (y_len' Sl32 (rs_len h0) rfl) ?_
   refine pl_val (.bool (decide (k66 < (a_.2.length : Int)))) (y_lss rfl rfl) ?_
   refine c_nil ?_
   refine c_condT (congrArg Value.bool (decide_eq_true hlt)) ?_
   refine wp_skip ?_
   refine c_seq ?_
   refine wp_block ?_
   refine c_sr ?_
   refine pl_val (.pointer (some ⟨a1, 1, none⟩)) (y_faddr rfl Fa34x1) ?_
   refine pl_val (.slice pa0 pn0 pc0) (y_load rfl ((box_load Ag32 Sz32 a0 [(.int .i64 a_.1)] [(.slice pa0 pn0 pc0)] [] rfl rfl (fun _ => rfl)) _ (Chg.refl _ _))) ?_
   refine pl_val (.int .i64 k66) (y_move rfl) ?_
   obtain ⟨x74, H0, hs⟩ := bind_some hs
   obtain ⟨A2, A3, H1, H2⟩ := rs_idx Sl32 Sz36 h0 H0
   refine pl_val (.pointer (some ⟨A2, A3, none⟩)) (H1 _ _ _ _ _ _ _ _ _ rfl rfl) ?_
   obtain ⟨H3, _⟩ := pr_at H2
   refine pl_val (.pointer (some ⟨A2, A3 + 0, none⟩)) (y_faddr rfl Fa36x0) ?_
   refine pl_val (.int .i64 x74.1) (y_load rfl ((at_load_int Ag3 Sz3 H3) _ (Chg.refl _ _))) ?_
   refine pl_val (.bool (x74.1 == 0)) (y_eql rfl rfl) ?_
   refine c_nil ?_
   rcases bif_some hs with ⟨t9, hs⟩ | ⟨t9, hs⟩
   ·refine c_condT (congrArg Value.bool t9) ?_
    refine c_region ?_
    refine pl_val (.slice i0 i1 i2) (y_move rfl) ?_
    refine pl_val (.agg #[(.int .i64 a_.1), (.slice pa0 pn0 pc0)]) (y_load rfl ((box_load Ag34 Sz34 a0 [] [(.int .i64 a_.1), (.slice pa0 pn0 pc0)] [] rfl rfl (fun h => nomatch h)) _ (Chg.refl _ _))) ?_
    refine pl_val (.int .i64 k66) (y_move rfl) ?_
    obtain ⟨A4, l1, H4, A5, i3, A6⟩ := new_block b2 [] 25
    refine pl_val (w' := A4) (.slice (some ⟨l1, 0, none⟩) 0 0) (y_bslice rfl (by rw [H4, A5]; kernel_rfl)) ?_
    have h0 := h0.ext i3
    have a0 := a0.cn i3
    have a2 := a2.ext i3
    have a3 := a3.ext i3
    have c3 := c3.ext i3
    have hC := hC.ext i3
    have hO := hO.new1 i3 A5 A6.lt
    have e3 := os_of_box (r := (RT.os 3 (RT.int .i64))) (M := M) (css := []) (fps := []) (xs := ([] : List (List Int))) A6 trivial (Nat.zero_le _) (List.nodup_cons.2 ⟨(fun h => nomatch h), List.nodup_nil⟩)
    have e3 : (RT.os 25 (RT.os 3 (RT.int .i64))).val M A4 (.slice (some ⟨l1, 0, none⟩) 0 0) [] [l1] := e3
    refine pl_val (.int .i64 k) (y_move rfl) ?_
    obtain ⟨r81, H5, hs⟩ := bind_some hs
    refine pl_call Bd83 rfl (c_spec_l8Apply (M := (Less M ([l1]))) (a_.1, a_.2) k66 ([]) k (h0.sub Less.sub) (((Frz.os (Frz.os Frz.int))).val e3 Less.sub Less.not) hO.less.fut H5) ?_
    rintro _ H6 ⟨A7, A8, A9, p2, rfl, f8, n5, H7⟩
    have h0 := h0.ext f8
    have a0 := a0.cn f8
    have a2 := a2.ext f8
    have a3 := a3.ext f8
    have c3 := c3.ext f8
    have e3 := e3.ext f8
    have hC := hC.ext f8
    have hO := Own.join0 hO f8 H7
    have hO := hO.perm (R := p2 ++ (([l1]) ++ (f7 ++ (([a7]) ++ (([a6]) ++ (([a1]) ++ ([]))))))) (by simp)
    have n5 := n5.free (M' := M) (Free.os Free.int)
    obtain ⟨B0, p3, H8, B1, e4, B2⟩ := new_block H6 [(.slice A7 A8 A9)] 25
    refine pl_val (w' := B0) (.slice (some ⟨p3, 0, none⟩) 1 1) (y_bslice rfl (by rw [H8, B1]; kernel_rfl)) ?_
    have h0 := h0.ext e4
    have a0 := a0.cn e4
    have a2 := a2.ext e4
    have a3 := a3.ext e4
    have c3 := c3.ext e4
    have e3 := e3.ext e4
    have n5 := n5.ext e4
    have hC := hC.ext e4
    have hO := hO.new1 e4 B1 B2.lt
    have hO := hO.perm (R := (p3 :: ((p2) ++ ([]))) ++ (([l1]) ++ (f7 ++ (([a7]) ++ (([a6]) ++ (([a1]) ++ ([]))))))) (by simp)
    have H9 := hO.nd
    have u0 := os_of_box (r := (RT.os 3 (RT.int .i64))) (M := M) (css := [[(.slice A7 A8 A9)]]) (fps := [(p2 : List Nat)]) (xs := ([r81] : List (List Int))) B2 ⟨(os_unval n5), trivial⟩ (Nat.le_of_ble_eq_true rfl) H9
    have u0 : (RT.os 25 (RT.os 3 (RT.int .i64))).val M B0 (.slice (some ⟨p3, 0, none⟩) 1 1) [r81] (p3 :: ((p2) ++ ([]))) := u0
    obtain ⟨y86, I0, hs⟩ := bind_some hs
    have hO := hO.fr2
    obtain ⟨u1, u2, u3, I1, I2, I3, i4, I4, u4⟩ := app_os Rw49 I0 c3 u0 hO.inM (fun g hg hq => hO.apart g hq (mem_l hg))
    have l2 := os_block c3
    refine pl_val (w' := I1) (.slice u1 u2 u3) (y_append rfl rfl (I3 _)) ?_
    have hO := hO.fr1
    have hO := hO.fr1
    have h0 := h0.mt i4 hO l2
    have a0 := a0.ap i4 hO l2 (mem_r (mem_r (mem_r (mem_r (mem_l (List.mem_singleton.2 rfl))))))
    have a2 := a2.ma i4 hO l2 (fun _ e => (mem_r (mem_r (mem_r (mem_l (e))))))
    have a3 := a3.ma i4 hO l2 (fun _ e => (mem_r (mem_r (mem_l (e)))))
    have e3 := e3.ma i4 hO l2 (fun _ e => (mem_r (mem_l (e))))
    have hC := hC.st i4 hO l2
    have hO := hO.eat i4 I4 (os_nodup u4) u4.fpl
    refine pl_val (.slice u1 u2 u3) (y_assign rfl) ?_
    refine c_nil ?_
    refine c_region ?_
    refine pl_val (.int .i64 k66) (y_move rfl) ?_
    refine pl_val (.int .i64 (w64 (k66 + 1))) (y_add rfl rfl) ?_
    refine pl_val (.int .i64 (w64 (k66 + 1))) (y_assign rfl) ?_
    refine c_nil ?_
    cases hs
    have hO := hO.fr1
    have hO := hO.drop
    have hO := hO.fr3
    have hO := hO.fr3
    have hO := hO.fr3
    have hO := hO.fr3
    exact ⟨_, u1, u2, u3, I2, fr_ovl 172 ⟨rfl, rfl, rfl, rfl, rfl, rfl, congrArg (Value.int .i64) hw, trivial⟩, hC, hO, h0, a0, a2, a3, u4⟩
   refine c_condF (congrArg Value.bool t9) ?_
   refine wp_skip ?_
   refine c_region ?_
   refine pl_val (.int .i64 k66) (y_move rfl) ?_
   refine pl_val (.int .i64 (w64 (k66 + 1))) (y_add rfl rfl) ?_
   refine pl_val (.int .i64 (w64 (k66 + 1))) (y_assign rfl) ?_
   refine c_nil ?_
   cases hs
   have hO := hO.fr3
   have hO := hO.fr3
   have hO := hO.fr3
   have hO := hO.fr3
   exact ⟨_, i0, i1, i2, f7, fr_ovl 172 ⟨rfl, rfl, rfl, rfl, rfl, rfl, congrArg (Value.int .i64) hw, trivial⟩, hC, hO, h0, a0, a2, a3, c3⟩
  ·skip
   have hO := hO.fr3
   have hO := hO.fr3
   have hO := hO.fr3
   have hO := hO.fr3
   exact ⟨_, o6, o7, o8, o9, fr_ovl 172 ⟨rfl, rfl, rfl, rfl, rfl, rfl, rfl, trivial⟩, hC, hO, h0, a0, a2, a3, G8⟩
  cases o68 with
  | nx _ => exact True.intro
  | rt r_ =>
   have hs := after_rt hs
   intro b8 k5 hK
   cases hs
   exact hK
  | br s64 =>
   have hs := after_br hs
   rintro b8 b2 ⟨σ, c6, c7, c8, t8, rfl, hC, hO, h0, a0, a2, a3, n6⟩
   refine c_seq ?_
   refine c_sr ?_
   refine pl_val (.int .i64 0) (y_assign rfl) ?_
   refine c_nil ?_
   have hO := hO.fr2
   obtain ⟨u5, Q7, u6, I5, hO, n7⟩ := frz_own (Frz.os (Frz.os Frz.int)) a2 hO
   have h0 := h0.sub (M' := u5) u6
   have a3 := a3.sub (M' := u5) u6
   have n6 := n6.sub (M' := u5) u6
   have hK := I5
   have hO := hO.fr1
   obtain ⟨u7, I6, u9, I7, hO, v0⟩ := os_inner (Frz.os Frz.int) a3 hO
   have h0 := h0.sub (M' := u7) u9
   have n7 := n7.sub (M' := u7) u9
   have n6 := n6.sub (M' := u7) u9
   have hK := hK.trans I7
   have hO := hO.fr1
   obtain ⟨p4, Q8, v1, I8, hO, b1⟩ := frz_own (Frz.os (Frz.os Frz.int)) n6 hO
   have h0 := h0.sub (M' := p4) v1
   have n7 := n7.sub (M' := p4) v1
   have v0 := v0.sub (M' := p4) v1
   have hK := hK.trans I8
   obtain ⟨o253, I9, hs⟩ := bind_some hs
   refine wp_block ?_
   refine wp_iter (id := 4) (I := fun s249 a b5 => ∃ (σ : Nat → Value) (a8 : Nat → Prop) (i5 : Option Addr) (i6 : Nat) (i7 : Nat) (l3 : Option Addr) (l4 : Nat) (l5 : Nat) (n8 : List Nat), a = fr 172 (ovl σ [(1, (.int .i64 k)), (3, (.pointer (some ⟨a1, 0, none⟩))), (8, (.slice i5 i6 i7)), (9, (.slice l3 l4 l5)), (10, (.int .i64 r9)), (11, (.slice c6 c7 c8)), (14, (.int .i64 s249.2.2))]) ∧ Chg [] w b5 ∧ Own (Nw w []) a8 b5 (n8 ++ (([a1]) ++ [])) ∧ Keeps w M a8 ∧ (RT.rs (RT.pr (RT.int .i64) (RT.rs (RT.int .i64)))).val a8 b5 (.slice pa0 pn0 pc0) a_.2 ([]) ∧ BoxV b5 a1 34 [(.int .i64 a_.1), (.slice pa0 pn0 pc0)] ∧ (RT.rs (RT.rs (RT.int .i64))).val a8 b5 (.slice c6 c7 c8) s64 ([]) ∧ (RT.rs (RT.rs (RT.int .i64))).val a8 b5 (.slice i5 i6 i7) s249.1 ([]) ∧ (RT.os 25 (RT.rs (RT.int .i64))).val a8 b5 (.slice l3 l4 l5) s249.2.1 n8) (J := fun s249 a b5 => ∃ (σ : Nat → Value) (f9 : Nat → Prop) (p5 : Option Addr) (p6 : Nat) (p7 : Nat) (p8 : Option Addr) (p9 : Nat) (q0 : Nat) (q1 : List Nat), a = fr 172 (ovl σ [(1, (.int .i64 k)), (3, (.pointer (some ⟨a1, 0, none⟩))), (8, (.slice p5 p6 p7)), (9, (.slice p8 p9 q0)), (10, (.int .i64 r9))]) ∧ Chg [] w b5 ∧ Own (Nw w []) f9 b5 (q1 ++ (([a1]) ++ [])) ∧ Keeps w M f9 ∧ (RT.rs (RT.pr (RT.int .i64) (RT.rs (RT.int .i64)))).val f9 b5 (.slice pa0 pn0 pc0) a_.2 ([]) ∧ BoxV b5 a1 34 [(.int .i64 a_.1), (.slice pa0 pn0 pc0)] ∧ (RT.rs (RT.rs (RT.int .i64))).val f9 b5 (.slice c6 c7 c8) s64 ([]) ∧ (RT.rs (RT.rs (RT.int .i64))).val f9 b5 (.slice p5 p6 p7) s249.1 ([]) ∧ (RT.os 25 (RT.rs (RT.int .i64))).val f9 b5 (.slice p8 p9 q0) s249.2.1 q1) (K := (k_spec_l8Close M w)) ?_ FU ([], [], 0) o253 _ _ ?_ I9 ?_
   ·rintro s249 o253 a b5 ⟨σ, a8, i5, i6, i7, l3, l4, l5, n8, rfl, hC, hO, hK, h0, a0, b1, c9, c2⟩ hs
    refine c_seq ?_
    refine c_sr ?_
    refine pl_val (.int .i64 s249.2.2) (y_move rfl) ?_
    refine pl_val (.slice c6 c7 c8) (y_move rfl) ?_
    refine pl_val (.int .i64 (s64.length : Int)) (y_len' Sl49 (rs_len b1) rfl) ?_
    refine pl_val (.bool (decide (s249.2.2 < (s64.length : Int)))) (y_lss rfl rfl) ?_
    refine c_nil ?_
    rcases bif_some hs with ⟨v2, hs⟩ | ⟨v2, hs⟩
    ·refine c_condT (congrArg Value.bool v2) ?_
     refine wp_skip ?_
     refine c_seq ?_
     refine wp_block ?_
     refine c_sr ?_
     refine pl_val (.slice i5 i6 i7) (y_move rfl) ?_
     refine pl_val (.slice c6 c7 c8) (y_move rfl) ?_
     refine pl_val (.int .i64 s249.2.2) (y_move rfl) ?_
     obtain ⟨x266, J0, hs⟩ := bind_some hs
     obtain ⟨J1, J2, J3, J4⟩ := rs_idx Sl49 Sz25 b1 J0
     refine pl_val (.pointer (some ⟨J1, J2, none⟩)) (J3 _ _ _ _ _ _ _ _ _ rfl rfl) ?_
     obtain ⟨Q9, J5, q2⟩ := at_load Ag25 Sz25 (fun _ => rfl) J4
     obtain ⟨J6, J7, J8, rfl⟩ := rs_sl q2
     refine pl_val (.slice J6 J7 J8) (y_load rfl (J5 _ (Chg.refl _ _))) ?_
     obtain ⟨r271, J9, hs⟩ := bind_some hs
     refine pl_call Bd71 rfl (c_spec_l8Find (M := a8) s249.1 x266 c9 q2 hO.fut J9) ?_
     rintro _ e5 ⟨rfl, g0⟩
     have h0 := h0.ext g0
     have a0 := a0.cn g0
     have b1 := b1.ext g0
     have c9 := c9.ext g0
     have c2 := c2.ext g0
     have q2 := q2.ext g0
     have hC := hC.ext g0
     have hO := hO.ext g0
     refine pl_val (.tuple #[(.int .i64 r271.1), (.bool r271.2)]) (y_move rfl) ?_
     refine pl_val (.int .i64 r271.1) (y_extract rfl (by kernel_rfl)) ?_
     refine pl_val (.bool r271.2) (y_extract rfl (by kernel_rfl)) ?_
     refine pl_val (.int .i64 r271.1) (y_assign rfl) ?_
     refine pl_val (.bool r271.2) (y_assign rfl) ?_
     refine c_nil ?_
     refine c_sr ?_
     refine pl_val (.bool r271.2) (y_move rfl) ?_
     refine pl_val (.bool (!r271.2)) (y_not rfl) ?_
     refine c_nil ?_
     rcases bif_some hs with ⟨v3, hs⟩ | ⟨v3, hs⟩
     ·refine c_condT (congrArg Value.bool v3) ?_
      refine c_sr ?_
      refine pl_val (.slice i5 i6 i7) (y_move rfl) ?_
      refine pl_val (.slice c6 c7 c8) (y_move rfl) ?_
      refine pl_val (.int .i64 s249.2.2) (y_move rfl) ?_
      obtain ⟨x273, K0, hs⟩ := bind_some hs
      obtain ⟨K1, K2, K3, K4⟩ := rs_idx Sl49 Sz25 b1 K0
      refine pl_val (.pointer (some ⟨K1, K2, none⟩)) (K3 _ _ _ _ _ _ _ _ _ rfl rfl) ?_
      obtain ⟨R0, K5, l6⟩ := at_load Ag25 Sz25 (fun _ => rfl) K4
      obtain ⟨K6, K7, K8, rfl⟩ := rs_sl l6
      refine pl_val (.slice K6 K7 K8) (y_load rfl (K5 _ (Chg.refl _ _))) ?_
      obtain ⟨r278, K9, hs⟩ := bind_some hs
      refine pl_call Bd84 rfl (c_spec_l8Put (M := a8) s249.1 x273 c9 l6 hO.fut K9) ?_
      rintro _ d0 ⟨B3, B4, B5, rfl, g1, n9⟩
      have hK := hK.trans (show Keeps w a8 (Past a8 e5 d0) from Keeps.past hC.size)
      have h0 := h0.ext g1
      have a0 := a0.cn g1
      have b1 := b1.ext g1
      have c9 := c9.ext g1
      have c2 := c2.ext g1
      have l6 := l6.ext g1
      have hC := hC.ext g1
      have hO := hO.past g1
      have h0 := h0.sub (M' := (Past a8 e5 d0)) (fun g hg => .inl hg.1)
      have b1 := b1.sub (M' := (Past a8 e5 d0)) (fun g hg => .inl hg.1)
      have c9 := c9.sub (M' := (Past a8 e5 d0)) (fun g hg => .inl hg.1)
      have c2 := c2.sub (M' := (Past a8 e5 d0)) (fun g hg => .inl hg.1)
      have l6 := l6.sub (M' := (Past a8 e5 d0)) (fun g hg => .inl hg.1)
      refine pl_val (.slice B3 B4 B5) (y_assign rfl) ?_
      refine c_nil ?_
      refine c_region ?_
      refine pl_val (.slice l3 l4 l5) (y_move rfl) ?_
      refine pl_val (.slice c6 c7 c8) (y_move rfl) ?_
      refine pl_val (.int .i64 s249.2.2) (y_move rfl) ?_
      obtain ⟨x280, L0, hs⟩ := bind_some hs
      obtain ⟨L1, L2, L3, L4⟩ := rs_idx Sl49 Sz25 b1 L0
      refine pl_val (.pointer (some ⟨L1, L2, none⟩)) (L3 _ _ _ _ _ _ _ _ _ rfl rfl) ?_
      obtain ⟨R1, L5, l7⟩ := at_load Ag25 Sz25 (fun _ => rfl) L4
      obtain ⟨v4, v5, v6, rfl⟩ := rs_sl l7
      refine pl_val (.slice v4 v5 v6) (y_load rfl (L5 _ (Chg.refl _ _))) ?_
      obtain ⟨B6, v7, L6, B7, g2, B8⟩ := new_block d0 [(.slice v4 v5 v6)] 25
      refine pl_val (w' := B6) (.slice (some ⟨v7, 0, none⟩) 1 1) (y_bslice rfl (by rw [L6, B7]; kernel_rfl)) ?_
      have h0 := h0.ext g2
      have a0 := a0.cn g2
      have b1 := b1.ext g2
      have c2 := c2.ext g2
      have n9 := n9.ext g2
      have l7 := l7.ext g2
      have hC := hC.ext g2
      have hO := hO.new1 g2 B7 B8.lt
      have v8 := os_of_box (r := (RT.rs (RT.int .i64))) (M := (Past a8 e5 d0)) (css := [[(.slice v4 v5 v6)]]) (fps := [([] : List Nat)]) (xs := ([x280] : List (List Int))) B8 ⟨(rs_unval l7), trivial⟩ (Nat.le_of_ble_eq_true rfl) (List.nodup_cons.2 ⟨(fun h => nomatch h), List.nodup_nil⟩)
      have v8 : (RT.os 25 (RT.rs (RT.int .i64))).val (Past a8 e5 d0) B6 (.slice (some ⟨v7, 0, none⟩) 1 1) [x280] [v7] := v8
      obtain ⟨y287, L7, hs⟩ := bind_some hs
      have hO := hO.fr1
      obtain ⟨v9, w1, w2, L8, L9, M0, i9, M1, w3⟩ := app_os Rw49 L7 c2 v8 hO.inM (fun g hg hq => hO.apart g hq (mem_l hg))
      have l8 := os_block c2
      refine pl_val (w' := L8) (.slice v9 w1 w2) (y_append rfl rfl (M0 _)) ?_
      have hO := hO.fr1
      have hO := hO.fr1
      have h0 := h0.mt i9 hO l8
      have a0 := a0.ap i9 hO l8 (mem_r (mem_l (List.mem_singleton.2 rfl)))
      have b1 := b1.mt i9 hO l8
      have n9 := n9.mt i9 hO l8
      have l7 := l7.mt i9 hO l8
      have hC := hC.st i9 hO l8
      have hO := hO.eat i9 M1 (os_nodup w3) w3.fpl
      refine pl_val (.slice v9 w1 w2) (y_assign rfl) ?_
      refine c_nil ?_
      refine c_region ?_
      refine pl_val (.int .i64 s249.2.2) (y_move rfl) ?_
      refine pl_val (.int .i64 (w64 (s249.2.2 + 1))) (y_add rfl rfl) ?_
      refine pl_val (.int .i64 (w64 (s249.2.2 + 1))) (y_assign rfl) ?_
      refine c_nil ?_
      cases hs
      have hO := hO.fr1
      have hO := hO.fr1
      exact ⟨_, (Past a8 e5 d0), B3, B4, B5, v9, w1, w2, L9, fr_ovl 172 ⟨rfl, rfl, rfl, rfl, rfl, rfl, rfl, trivial⟩, hC, hO, hK, h0, a0, b1, n9, w3⟩
     refine c_condF (congrArg Value.bool v3) ?_
     refine wp_skip ?_
     refine c_region ?_
     refine pl_val (.int .i64 s249.2.2) (y_move rfl) ?_
     refine pl_val (.int .i64 (w64 (s249.2.2 + 1))) (y_add rfl rfl) ?_
     refine pl_val (.int .i64 (w64 (s249.2.2 + 1))) (y_assign rfl) ?_
     refine c_nil ?_
     cases hs
     have hO := hO.fr1
     have hO := hO.fr1
     exact ⟨_, a8, i5, i6, i7, l3, l4, l5, n8, fr_ovl 172 ⟨rfl, rfl, rfl, rfl, rfl, rfl, rfl, trivial⟩, hC, hO, hK, h0, a0, b1, c9, c2⟩
    refine c_condF (congrArg Value.bool v2) ?_
    refine wp_exit ?_
    cases hs
    have hO := hO.fr1
    have hO := hO.fr1
    exact ⟨rfl, _, a8, i5, i6, i7, l3, l4, l5, n8, fr_ovl 172 ⟨rfl, rfl, rfl, rfl, rfl, trivial⟩, hC, hO, hK, h0, a0, b1, c9, c2⟩
   ·skip
    have hO := hO.fr1
    have hO := hO.fr1
    exact ⟨_, p4, (some ⟨a6, 0, none⟩), 0, 0, (some ⟨a7, 0, none⟩), 0, 0, I6, fr_ovl 172 ⟨rfl, rfl, rfl, rfl, rfl, rfl, rfl, trivial⟩, hC, hO, hK, h0, a0, b1, n7, v0⟩
   cases o253 with
   | nx _ => exact True.intro
   | rt r_ =>
    have hs := after_rt hs
    intro b8 k5 hK
    cases hs
    exact hK
   | br s249 =>
    have hs := after_br hs
    rintro b8 b5 ⟨σ, f9, p5, p6, p7, p8, p9, q0, q1, rfl, hC, hO, hK, h0, a0, b1, M2, M3⟩
    refine c_seq ?_
    refine c_sr ?_
    refine pl_val (.int .i64 0) (y_assign rfl) ?_
    refine c_nil ?_
    obtain ⟨o2570, M4, hs⟩ := bind_some hs
    refine wp_block ?_
    refine wp_iter (id := 6) (I := fun s2566 a b6 => ∃ (σ : Nat → Value) (g3 : Nat → Prop) (l9 : Option Addr) (m0 : Nat) (m1 : Nat) (g4 : Option Addr) (g5 : Nat) (g6 : Nat) (o0 : List Nat), a = fr 172 (ovl σ [(1, (.int .i64 k)), (3, (.pointer (some ⟨a1, 0, none⟩))), (8, (.slice l9 m0 m1)), (9, (.slice g4 g5 g6)), (10, (.int .i64 r9)), (17, (.int .i64 s2566.2.2))]) ∧ Chg [] w b6 ∧ Own (Nw w []) g3 b6 (o0 ++ (([a1]) ++ [])) ∧ Keeps w M g3 ∧ (RT.rs (RT.pr (RT.int .i64) (RT.rs (RT.int .i64)))).val g3 b6 (.slice pa0 pn0 pc0) a_.2 ([]) ∧ BoxV b6 a1 34 [(.int .i64 a_.1), (.slice pa0 pn0 pc0)] ∧ (RT.rs (RT.rs (RT.int .i64))).val g3 b6 (.slice l9 m0 m1) s2566.1 ([]) ∧ (RT.os 25 (RT.rs (RT.int .i64))).val g3 b6 (.slice g4 g5 g6) s2566.2.1 o0) (J := fun s2566 a b6 => ∃ (σ : Nat → Value) (m2 : Nat → Prop) (j0 : Option Addr) (j1 : Nat) (j2 : Nat) (B9 : Option Addr) (C0 : Nat) (C1 : Nat) (w4 : List Nat), a = fr 172 (ovl σ [(8, (.slice j0 j1 j2)), (10, (.int .i64 r9))]) ∧ Chg [] w b6 ∧ Own (Nw w []) m2 b6 (w4 ++ (([a1]) ++ [])) ∧ Keeps w M m2 ∧ (RT.rs (RT.pr (RT.int .i64) (RT.rs (RT.int .i64)))).val m2 b6 (.slice pa0 pn0 pc0) a_.2 ([]) ∧ BoxV b6 a1 34 [(.int .i64 a_.1), (.slice pa0 pn0 pc0)] ∧ (RT.rs (RT.rs (RT.int .i64))).val m2 b6 (.slice j0 j1 j2) s2566.1 ([]) ∧ (RT.os 25 (RT.rs (RT.int .i64))).val m2 b6 (.slice B9 C0 C1) s2566.2.1 w4) (K := (k_spec_l8Close M w)) ?_ FU (s249.1, s249.2.1, 0) o2570 _ _ ?_ M4 ?_
    ·rintro s2566 o2570 a b6 ⟨σ, g3, l9, m0, m1, g4, g5, g6, o0, rfl, hC, hO, hK, h0, a0, q3, m3⟩ hs
     refine c_seq ?_
     refine c_seq ?_
     refine c_mid (I := fun a C2 => ∃ (σ : Nat → Value), a = fr 172 (ovl σ [(1, (.int .i64 k)), (3, (.pointer (some ⟨a1, 0, none⟩))), (8, (.slice l9 m0 m1)), (9, (.slice g4 g5 g6)), (10, (.int .i64 r9)), (17, (.int .i64 s2566.2.2)), (104, (.bool ((decide (s2566.2.2 < (s2566.2.1.length : Int))) && (decide ((s2566.2.1.length : Int) ≤ r9)))))]) ∧ Chg [] b6 C2) ?_ ?_
     ·have hMid := Chg.refl [] b6
      refine c_region ?_
      refine pl_val (.int .i64 s2566.2.2) (y_move rfl) ?_
      refine pl_val (.slice g4 g5 g6) (y_move rfl) ?_
      refine pl_val (.int .i64 (s2566.2.1.length : Int)) (y_len' Sl49 (os_len m3) rfl) ?_
      refine pl_val (.bool (decide (s2566.2.2 < (s2566.2.1.length : Int)))) (y_lss rfl rfl) ?_
      refine pl_val (.bool (decide (s2566.2.2 < (s2566.2.1.length : Int)))) (y_move rfl) ?_
      rcases Bool.eq_false_or_eq_true ((decide (s2566.2.2 < (s2566.2.1.length : Int)))) with b9 | b9
      ·skip
       refine pl_yes (.slice g4 g5 g6) (tg := 99) (by kernel_rfl) (congrArg Value.bool b9) (y_move rfl) ?_
       refine pl_yes (.int .i64 (s2566.2.1.length : Int)) (tg := 99) (by kernel_rfl) (congrArg Value.bool b9) (y_len' Sl49 (os_len m3) rfl) ?_
       refine pl_yes (.int .i64 r9) (tg := 99) (by kernel_rfl) (congrArg Value.bool b9) (y_move rfl) ?_
       refine pl_yes (.bool (decide ((s2566.2.1.length : Int) ≤ r9))) (tg := 99) (by kernel_rfl) (congrArg Value.bool b9) (y_leq rfl rfl) ?_
       refine pl_val (.bool ((decide (s2566.2.2 < (s2566.2.1.length : Int))) && (decide ((s2566.2.1.length : Int) ≤ r9)))) (y_pick_t (congrArg Value.bool b9) (congrArg Value.bool (by rw [b9]; rfl))) ?_
       refine c_nil ?_
       exact ⟨_, fr_ovl 172 ⟨rfl, rfl, rfl, rfl, rfl, rfl, rfl, trivial⟩, hMid⟩
      refine pl_not (tg := 99) (by kernel_rfl) (congrArg Value.bool b9) ?_
      refine pl_not (tg := 99) (by kernel_rfl) (congrArg Value.bool b9) ?_
      refine pl_not (tg := 99) (by kernel_rfl) (congrArg Value.bool b9) ?_
      refine pl_not (tg := 99) (by kernel_rfl) (congrArg Value.bool b9) ?_
      refine pl_val (.bool ((decide (s2566.2.2 < (s2566.2.1.length : Int))) && (decide ((s2566.2.1.length : Int) ≤ r9)))) (y_pick_f (congrArg Value.bool b9) (congrArg Value.bool (by rw [b9]; rfl))) ?_
      refine c_nil ?_
      exact ⟨_, fr_ovl 172 ⟨rfl, rfl, rfl, rfl, rfl, rfl, rfl, trivial⟩, hMid⟩
     rintro b8 C2 ⟨σ, rfl, m4⟩
     have h0 := h0.ext m4
     have a0 := a0.cn m4
     have q3 := q3.ext m4
     have m3 := m3.ext m4
     have hC := hC.ext m4
     have hO := hO.ext m4
     rcases bif_some hs with ⟨w5, hs⟩ | ⟨w5, hs⟩
     ·refine c_condT (congrArg Value.bool w5) ?_
      refine wp_skip ?_
      refine c_seq ?_
      refine wp_block ?_
      refine c_sr ?_
      refine pl_val (.int .i64 0) (y_assign rfl) ?_
      refine c_nil ?_
      obtain ⟨o3336, M5, hs⟩ := bind_some hs
      refine wp_block ?_
      refine wp_forC (id := 8) (a_.2.length : Int) (I := fun k3334 s3332 a b4 => ∃ (σ : Nat → Value) (d1 : Nat → Prop) (m5 : Option Addr) (m6 : Nat) (m7 : Nat) (m8 : Option Addr) (m9 : Nat) (n0 : Nat) (n1 : List Nat), a = fr 172 (ovl σ [(1, (.int .i64 k)), (3, (.pointer (some ⟨a1, 0, none⟩))), (8, (.slice m5 m6 m7)), (9, (.slice m8 m9 n0)), (10, (.int .i64 r9)), (17, (.int .i64 s2566.2.2)), (18, (.int .i64 k3334))]) ∧ Chg [] w b4 ∧ Own (Nw w []) d1 b4 (n1 ++ (([a1]) ++ [])) ∧ Keeps w M d1 ∧ (RT.rs (RT.pr (RT.int .i64) (RT.rs (RT.int .i64)))).val d1 b4 (.slice pa0 pn0 pc0) a_.2 ([]) ∧ BoxV b4 a1 34 [(.int .i64 a_.1), (.slice pa0 pn0 pc0)] ∧ (RT.rs (RT.rs (RT.int .i64))).val d1 b4 (.slice m5 m6 m7) s3332.1 ([]) ∧ (RT.os 25 (RT.rs (RT.int .i64))).val d1 b4 (.slice m8 m9 n0) s3332.2 n1) (J := fun s3332 a b4 => ∃ (σ : Nat → Value) (j3 : Nat → Prop) (q4 : Option Addr) (q5 : Nat) (q6 : Nat) (q7 : Option Addr) (q8 : Nat) (q9 : Nat) (r0 : List Nat), a = fr 172 (ovl σ [(1, (.int .i64 k)), (3, (.pointer (some ⟨a1, 0, none⟩))), (8, (.slice q4 q5 q6)), (9, (.slice q7 q8 q9)), (10, (.int .i64 r9)), (17, (.int .i64 s2566.2.2))]) ∧ Chg [] w b4 ∧ Own (Nw w []) j3 b4 (r0 ++ (([a1]) ++ [])) ∧ Keeps w M j3 ∧ (RT.rs (RT.pr (RT.int .i64) (RT.rs (RT.int .i64)))).val j3 b4 (.slice pa0 pn0 pc0) a_.2 ([]) ∧ BoxV b4 a1 34 [(.int .i64 a_.1), (.slice pa0 pn0 pc0)] ∧ (RT.rs (RT.rs (RT.int .i64))).val j3 b4 (.slice q4 q5 q6) s3332.1 ([]) ∧ (RT.os 25 (RT.rs (RT.int .i64))).val j3 b4 (.slice q7 q8 q9) s3332.2 r0) (K := (k_spec_l8Close M w)) ?_ ?_ 0 (s2566.1, s2566.2.1) o3336 _ _ ?_ M5 ?_
      ·rintro k3334 s3332 a b4 ⟨σ, d1, m5, m6, m7, m8, m9, n0, n1, rfl, hC, hO, hK, h0, a0, j4, j5⟩ hlt
       refine c_seq ?_
       refine c_sr ?_
       refine pl_val (.int .i64 k3334) (y_move rfl) ?_
       refine pl_val (.pointer (some ⟨a1, 1, none⟩)) (y_faddr rfl Fa34x1) ?_
       refine pl_val (.slice pa0 pn0 pc0) (y_load rfl ((box_load Ag32 Sz32 a0 [(.int .i64 a_.1)] [(.slice pa0 pn0 pc0)] [] rfl rfl (fun _ => rfl)) _ (Chg.refl _ _))) ?_
       refine pl_val (.int .i64 (a_.2.length : Int)) (y_len' Sl32 (rs_len h0) rfl) ?_
       refine pl_val (.bool (decide (k3334 < (a_.2.length : Int)))) (y_lss rfl rfl) ?_
       refine c_nil ?_
       refine c_condF (congrArg Value.bool (decide_eq_false hlt)) ?_
       refine wp_exit ?_
       have hO := hO.fr1
       have hO := hO.fr1
       exact ⟨rfl, _, d1, m5, m6, m7, m8, m9, n0, n1, fr_ovl 172 ⟨rfl, rfl, rfl, rfl, rfl, rfl, trivial⟩, hC, hO, hK, h0, a0, j4, j5⟩
      ·rintro k3334 s3332 o3336 a b4 ⟨σ, d1, m5, m6, m7, m8, m9, n0, n1, rfl, hC, hO, hK, h0, a0, j4, j5⟩ hlt hw hs
       refine c_seq ?_
       refine c_sr ?_
       refine pl_val (.int .i64 k3334) (y_move rfl) ?_
       refine pl_val (.pointer (some ⟨a1, 1, none⟩)) (y_faddr rfl Fa34x1) ?_
       refine pl_val (.slice pa0 pn0 pc0) (y_load rfl ((box_load Ag32 Sz32 a0 [(.int .i64 a_.1)] [(.slice pa0 pn0 pc0)] [] rfl rfl (fun _ => rfl)) _ (Chg.refl _ _))) ?_
       refine pl_val (.int .i64 (a_.2.length : Int)) (y_len' Sl32 (rs_len h0) rfl) ?_
       refine pl_val (.bool (decide (k3334 < (a_.2.length : Int)))) (y_lss rfl rfl) ?_
       refine c_nil ?_
       refine c_condT (congrArg Value.bool (decide_eq_true hlt)) ?_
       refine wp_skip ?_
       refine c_seq ?_
       refine wp_block ?_
       refine c_seq ?_
       refine x_start [] Mx rfl ?_
       have j6 := Chg.drew b4
       generalize World.drew b4 = C3 at j6 ⊢
       have h0 := h0.ext j6
       have a0 := a0.cn j6
       have j4 := j4.ext j6
       have j5 := j5.ext j6
       have hC := hC.ext j6
       have hO := hO.ext j6
       have hS := Chg.refl [] C3
       refine x_p 0 (.pointer (some ⟨a1, 1, none⟩)) rfl (by kernel_rfl)  (fun _ => y_faddr rfl Fa34x1) (fun _ => hS) ?_
       refine x_l 1 (.slice pa0 pn0 pc0) rfl (by kernel_rfl)  (fun w' hw' => y_load rfl ((box_load Ag32 Sz32 a0 [(.int .i64 a_.1)] [(.slice pa0 pn0 pc0)] [] rfl rfl (fun _ => rfl)) w' hw')) hS ?_
       refine x_p 2 (.int .i64 k3334) rfl (by kernel_rfl)  (fun _ => y_move rfl) (fun _ => hS) ?_
       obtain ⟨x3359, M6, hs⟩ := bind_some hs
       obtain ⟨C4, C5, M7, M8⟩ := rs_idx Sl32 Sz36 h0 M6
       refine x_p 3 (.pointer (some ⟨C4, C5, none⟩)) rfl (by kernel_rfl)  (fun _ => M7 _ _ _ _ _ _ _ _ _ rfl rfl) (fun _ => hS) ?_
       obtain ⟨M9, _⟩ := pr_at M8
       refine x_p 4 (.pointer (some ⟨C4, C5 + 0, none⟩)) rfl (by kernel_rfl)  (fun _ => y_faddr rfl Fa36x0) (fun _ => hS) ?_
       refine x_l 5 (.int .i64 x3359.1) rfl (by kernel_rfl)  (fun w' hw' => y_load rfl ((at_load_int Ag3 Sz3 M9) w' hw')) hS ?_
       refine x_p 7 (.pointer (some ⟨a1, 1, none⟩)) rfl (by kernel_rfl)  (fun _ => y_faddr rfl Fa34x1) (fun _ => hS) ?_
       refine x_l 8 (.slice pa0 pn0 pc0) rfl (by kernel_rfl)  (fun w' hw' => y_load rfl ((box_load Ag32 Sz32 a0 [(.int .i64 a_.1)] [(.slice pa0 pn0 pc0)] [] rfl rfl (fun _ => rfl)) w' hw')) hS ?_
       refine x_p 9 (.int .i64 k3334) rfl (by kernel_rfl)  (fun _ => y_move rfl) (fun _ => hS) ?_
       obtain ⟨x3362, N0, hs⟩ := bind_some hs
       obtain ⟨C6, C7, N1, N2⟩ := rs_idx Sl32 Sz36 h0 N0
       refine x_p 10 (.pointer (some ⟨C6, C7, none⟩)) rfl (by kernel_rfl)  (fun _ => N1 _ _ _ _ _ _ _ _ _ rfl rfl) (fun _ => hS) ?_
       obtain ⟨N3, _⟩ := pr_at N2
       refine x_p 11 (.pointer (some ⟨C6, C7 + 0, none⟩)) rfl (by kernel_rfl)  (fun _ => y_faddr rfl Fa36x0) (fun _ => hS) ?_
       refine x_l 12 (.int .i64 x3362.1) rfl (by kernel_rfl)  (fun w' hw' => y_load rfl ((at_load_int Ag3 Sz3 N3) w' hw')) hS ?_
       refine x_p 13 (.bool (decide (0 < x3362.1))) rfl (by kernel_rfl)  (fun _ => y_gtr rfl rfl) (fun _ => hS) ?_
       refine x_one (i := 6) (by kernel_rfl) ?_
       obtain ⟨y3366, N4, hs⟩ := bind_some hs
       obtain ⟨w6, w7, w8, N5, N6, N7, g7, N8, w9⟩ := mk_os (M := d1) (w := C3) (r := (RT.int .i64)) Rw25 N4 (fun _ _ => ⟨rfl, rfl⟩)
       refine xk_val (w' := N5) (b := false) (.slice w6 w7 w8) rfl  (y_make rfl rfl N7) rfl (fun _ => hS.ext g7) ?_
       have h0 := h0.ext g7
       have a0 := a0.cn g7
       have j4 := j4.ext g7
       have j5 := j5.ext g7
       have hC := hC.ext g7
       have hO := hO.new g7 N8 (os_nodup w9) w9.fpl
       have hS := hS.ext g7
       refine x_p 14 (.slice w6 w7 w8) rfl (by kernel_rfl)  (fun _ => y_assign rfl) (fun _ => hS) ?_
       refine x_p 15 (.bool (decide (0 < x3362.1))) rfl (by kernel_rfl)  (fun _ => y_assign rfl) (fun _ => hS) ?_
       refine x_end (by kernel_rfl) ?_
       clear hS
       obtain ⟨o3595, N9, hs⟩ := bind_some hs
       refine wp_block ?_
       refine wp_iter (id := 10) (I := fun s3591 a b3 => ∃ (σ : Nat → Value) (e6 : Nat → Prop) (e7 : Option Addr) (e8 : Nat) (e9 : Nat) (d2 : Option Addr) (d3 : Nat) (d4 : Nat) (j7 : List Nat) (d5 : Option Addr) (d6 : Nat) (d7 : Nat) (o1 : List Nat), a = fr 172 (ovl σ [(1, (.int .i64 k)), (3, (.pointer (some ⟨a1, 0, none⟩))), (8, (.slice e7 e8 e9)), (9, (.slice d2 d3 d4)), (10, (.int .i64 r9)), (17, (.int .i64 s2566.2.2)), (18, (.int .i64 k3334)), (19, (.slice d5 d6 d7)), (20, (.bool s3591.2.2.2))]) ∧ Chg [] w b3 ∧ Own (Nw w []) e6 b3 (j7 ++ (o1 ++ (([a1]) ++ []))) ∧ Keeps w M e6 ∧ (RT.rs (RT.pr (RT.int .i64) (RT.rs (RT.int .i64)))).val e6 b3 (.slice pa0 pn0 pc0) a_.2 ([]) ∧ BoxV b3 a1 34 [(.int .i64 a_.1), (.slice pa0 pn0 pc0)] ∧ (RT.rs (RT.rs (RT.int .i64))).val e6 b3 (.slice e7 e8 e9) s3591.1 ([]) ∧ (RT.os 25 (RT.rs (RT.int .i64))).val e6 b3 (.slice d2 d3 d4) s3591.2.1 j7 ∧ (RT.os 3 (RT.int .i64)).val e6 b3 (.slice d5 d6 d7) s3591.2.2.1 o1) (J := fun s3591 a b3 => ∃ (σ : Nat → Value) (g8 : Nat → Prop) (r1 : Option Addr) (r2 : Nat) (r3 : Nat) (r4 : Option Addr) (r5 : Nat) (r6 : Nat) (r7 : List Nat) (C8 : Option Addr) (C9 : Nat) (D0 : Nat) (x0 : List Nat), a = fr 172 (ovl σ [(1, (.int .i64 k)), (3, (.pointer (some ⟨a1, 0, none⟩))), (8, (.slice r1 r2 r3)), (9, (.slice r4 r5 r6)), (10, (.int .i64 r9)), (17, (.int .i64 s2566.2.2)), (18, (.int .i64 k3334))]) ∧ Chg [] w b3 ∧ Own (Nw w []) g8 b3 (r7 ++ (x0 ++ (([a1]) ++ []))) ∧ Keeps w M g8 ∧ (RT.rs (RT.pr (RT.int .i64) (RT.rs (RT.int .i64)))).val g8 b3 (.slice pa0 pn0 pc0) a_.2 ([]) ∧ BoxV b3 a1 34 [(.int .i64 a_.1), (.slice pa0 pn0 pc0)] ∧ (RT.rs (RT.rs (RT.int .i64))).val g8 b3 (.slice r1 r2 r3) s3591.1 ([]) ∧ (RT.os 25 (RT.rs (RT.int .i64))).val g8 b3 (.slice r4 r5 r6) s3591.2.1 r7 ∧ (RT.os 3 (RT.int .i64)).val g8 b3 (.slice C8 C9 D0) s3591.2.2.1 x0) (K := (k_spec_l8Close M w)) ?_ FU (s3332.1, s3332.2, y3366, (decide (0 < x3362.1))) o3595 _ _ ?_ N9 ?_
       ·rintro s3591 o3595 a b3 ⟨σ, e6, e7, e8, e9, d2, d3, d4, j7, d5, d6, d7, o1, rfl, hC, hO, hK, h0, a0, a5, a4, d8⟩ hs
        refine c_seq ?_
        refine c_seq ?_
        refine c_mid (I := fun a D1 => ∃ (σ : Nat → Value), a = fr 172 (ovl σ [(1, (.int .i64 k)), (3, (.pointer (some ⟨a1, 0, none⟩))), (8, (.slice e7 e8 e9)), (9, (.slice d2 d3 d4)), (10, (.int .i64 r9)), (17, (.int .i64 s2566.2.2)), (18, (.int .i64 k3334)), (19, (.slice d5 d6 d7)), (20, (.bool s3591.2.2.2)), (134, (.bool (s3591.2.2.2 && (decide ((s3591.2.1.length : Int) ≤ r9)))))]) ∧ Chg [] b3 D1) ?_ ?_
        ·have hMid := Chg.refl [] b3
         refine c_region ?_
         refine pl_val (.bool s3591.2.2.2) (y_move rfl) ?_
         refine pl_val (.bool s3591.2.2.2) (y_move rfl) ?_
         rcases Bool.eq_false_or_eq_true (s3591.2.2.2) with c0 | c0
         ·skip
          refine pl_yes (.slice d2 d3 d4) (tg := 129) (by kernel_rfl) (congrArg Value.bool c0) (y_move rfl) ?_
          refine pl_yes (.int .i64 (s3591.2.1.length : Int)) (tg := 129) (by kernel_rfl) (congrArg Value.bool c0) (y_len' Sl49 (os_len a4) rfl) ?_
          refine pl_yes (.int .i64 r9) (tg := 129) (by kernel_rfl) (congrArg Value.bool c0) (y_move rfl) ?_
          refine pl_yes (.bool (decide ((s3591.2.1.length : Int) ≤ r9))) (tg := 129) (by kernel_rfl) (congrArg Value.bool c0) (y_leq rfl rfl) ?_
          refine pl_val (.bool (s3591.2.2.2 && (decide ((s3591.2.1.length : Int) ≤ r9)))) (y_pick_t (congrArg Value.bool c0) (congrArg Value.bool (by rw [c0]; rfl))) ?_
          refine c_nil ?_
          exact ⟨_, fr_ovl 172 ⟨rfl, rfl, rfl, rfl, rfl, rfl, rfl, rfl, rfl, rfl, trivial⟩, hMid⟩
         refine pl_not (tg := 129) (by kernel_rfl) (congrArg Value.bool c0) ?_
         refine pl_not (tg := 129) (by kernel_rfl) (congrArg Value.bool c0) ?_
         refine pl_not (tg := 129) (by kernel_rfl) (congrArg Value.bool c0) ?_
         refine pl_not (tg := 129) (by kernel_rfl) (congrArg Value.bool c0) ?_
         refine pl_val (.bool (s3591.2.2.2 && (decide ((s3591.2.1.length : Int) ≤ r9)))) (y_pick_f (congrArg Value.bool c0) (congrArg Value.bool (by rw [c0]; rfl))) ?_
         refine c_nil ?_
         exact ⟨_, fr_ovl 172 ⟨rfl, rfl, rfl, rfl, rfl, rfl, rfl, rfl, rfl, rfl, trivial⟩, hMid⟩
        rintro b8 D1 ⟨σ, rfl, j8⟩
        have h0 := h0.ext j8
        have a0 := a0.cn j8
        have a5 := a5.ext j8
        have a4 := a4.ext j8
        have d8 := d8.ext j8
        have hC := hC.ext j8
        have hO := hO.ext j8
        rcases bif_some hs with ⟨x1, hs⟩ | ⟨x1, hs⟩
        ·refine c_condT (congrArg Value.bool x1) ?_
         refine wp_skip ?_
         refine wp_block ?_
         refine c_seq ?_
         refine c_sr ?_
         refine pl_val (.slice d5 d6 d7) (y_move rfl) ?_
         refine pl_val (.int .i64 s2566.2.2) (y_move rfl) ?_
         have hO := hO.fr1
         obtain ⟨r3617, O0, hs⟩ := bind_some hs
         refine pl_call Bd85 rfl (c_spec_l1Has (M := (Less e6 o1)) s3591.2.2.1 s2566.2.2 (((Frz.os Frz.int)).val d8 Less.sub Less.not) hO.less.fut O0) ?_
         rintro _ D2 ⟨rfl, j9⟩
         have h0 := h0.ext j9
         have a0 := a0.cn j9
         have a5 := a5.ext j9
         have a4 := a4.ext j9
         have d8 := d8.ext j9
         have hC := hC.ext j9
         have hO := hO.ext j9
         refine c_nil ?_
         obtain ⟨s3674, O1, hs⟩ := bind_some hs
         refine c_mid (I := fun a g9 => ∃ (σ : Nat → Value) (f0 : Nat → Prop) (r8 : Option Addr) (s0 : Nat) (s1 : Nat) (s2 : Option Addr) (s3 : Nat) (s4 : Nat) (o2 : List Nat), a = fr 172 (ovl σ [(1, (.int .i64 k)), (3, (.pointer (some ⟨a1, 0, none⟩))), (8, (.slice r8 s0 s1)), (9, (.slice s2 s3 s4)), (10, (.int .i64 r9)), (17, (.int .i64 s2566.2.2)), (18, (.int .i64 k3334)), (19, (.slice d5 d6 d7)), (20, (.bool s3591.2.2.2))]) ∧ Chg [] w g9 ∧ Own (Nw w []) f0 g9 (o2 ++ (([a1]) ++ [])) ∧ Keeps w M f0 ∧ (RT.rs (RT.pr (RT.int .i64) (RT.rs (RT.int .i64)))).val f0 g9 (.slice pa0 pn0 pc0) a_.2 ([]) ∧ BoxV g9 a1 34 [(.int .i64 a_.1), (.slice pa0 pn0 pc0)] ∧ (RT.rs (RT.int .i64)).val f0 g9 (.slice d5 d6 d7) s3674.2.2 ([]) ∧ (RT.rs (RT.rs (RT.int .i64))).val f0 g9 (.slice r8 s0 s1) s3674.1 ([]) ∧ (RT.os 25 (RT.rs (RT.int .i64))).val f0 g9 (.slice s2 s3 s4) s3674.2.1 o2) ?_ ?_
         ·replace hs := O1
          rcases bif_some hs with ⟨x2, hs⟩ | ⟨x2, hs⟩
          ·refine c_condT (congrArg Value.bool x2) ?_
           refine c_seq ?_
           refine x_start [] Mx rfl ?_
           have h2 := Chg.drew D2
           generalize World.drew D2 = f1 at h2 ⊢
           have h0 := h0.ext h2
           have a0 := a0.cn h2
           have a5 := a5.ext h2
           have a4 := a4.ext h2
           have d8 := d8.ext h2
           have hC := hC.ext h2
           have hO := hO.ext h2
           have hS := Chg.refl [] f1
           refine x_l 0 (.agg #[(.int .i64 a_.1), (.slice pa0 pn0 pc0)]) rfl (by kernel_rfl)  (fun w' hw' => y_load rfl ((box_load Ag34 Sz34 a0 [] [(.int .i64 a_.1), (.slice pa0 pn0 pc0)] [] rfl rfl (fun h => nomatch h)) w' hw')) hS ?_
           refine x_p 1 (.int .i64 k3334) rfl (by kernel_rfl)  (fun _ => y_move rfl) (fun _ => hS) ?_
           refine x_p 2 (.slice d2 d3 d4) rfl (by kernel_rfl)  (fun _ => y_move rfl) (fun _ => hS) ?_
           refine x_p 3 (.slice d5 d6 d7) rfl (by kernel_rfl)  (fun _ => y_move rfl) (fun _ => hS) ?_
           refine x_p 5 (.int .i64 k) rfl (by kernel_rfl)  (fun _ => y_move rfl) (fun _ => hS) ?_
           refine x_one (i := 4) (by kernel_rfl) ?_
           obtain ⟨c1, R2, x3, O2, hO, a9⟩ := frz_own (Frz.os Frz.int) d8 hO
           have h0 := h0.sub (M' := c1) x3
           have a5 := a5.sub (M' := c1) x3
           have a4 := a4.sub (M' := c1) x3
           have hK := hK.trans O2
           obtain ⟨r3695, O3, hs⟩ := bind_some hs
           refine xk_call (b := false) rfl  Bd86 rfl (c_spec_l8Choose__sh (M := c1) s3591.2.1 s3591.2.2.1 a4 a9 hO.fut O3) rfl (by rintro _ _ _ ⟨O4, O5, O6, rfl, d9, n2⟩; exact hS.ext d9) ?_
           rintro _ h3 ⟨O4, O5, O6, rfl, d9, n2⟩
           have hK := hK.trans (show Keeps w c1 (Past c1 f1 h3) from Keeps.past hC.size)
           have h0 := h0.ext d9
           have a0 := a0.cn d9
           have a5 := a5.ext d9
           have a4 := a4.ext d9
           have a9 := a9.ext d9
           have hC := hC.ext d9
           have hO := hO.past d9
           have h0 := h0.sub (M' := (Past c1 f1 h3)) (fun g hg => .inl hg.1)
           have a5 := a5.sub (M' := (Past c1 f1 h3)) (fun g hg => .inl hg.1)
           have a4 := a4.sub (M' := (Past c1 f1 h3)) (fun g hg => .inl hg.1)
           have a9 := a9.sub (M' := (Past c1 f1 h3)) (fun g hg => .inl hg.1)
           have hS := hS.ext d9
           refine x_one (i := 6) (by kernel_rfl) ?_
           obtain ⟨r3698, O7, hs⟩ := bind_some hs
           refine xk_call (b := false) rfl  Bd83 rfl (c_spec_l8Apply (M := (Past c1 f1 h3)) (a_.1, a_.2) k3334 r3695 k h0 n2 hO.fut O7) rfl (by rintro _ _ _ ⟨k0, k1, k2, x4, rfl, c4, o3, D3⟩; exact hS.ext c4) ?_
           rintro _ R3 ⟨k0, k1, k2, x4, rfl, c4, o3, D3⟩
           have h0 := h0.ext c4
           have a0 := a0.cn c4
           have a5 := a5.ext c4
           have a4 := a4.ext c4
           have a9 := a9.ext c4
           have n2 := n2.ext c4
           have hC := hC.ext c4
           have hO := Own.join0 hO c4 D3
           have hO := hO.perm (R := x4 ++ (j7 ++ (([a1]) ++ ([])))) (by simp)
           have hS := hS.ext c4
           refine x_p 7 (.slice k0 k1 k2) rfl (by kernel_rfl)  (fun _ => y_assign rfl) (fun _ => hS) ?_
           refine x_end (by kernel_rfl) ?_
           clear hS
           refine c_sr ?_
           refine pl_val (.slice e7 e8 e9) (y_move rfl) ?_
           refine pl_val (.slice k0 k1 k2) (y_move rfl) ?_
           obtain ⟨r3701, O8, hs⟩ := bind_some hs
           refine pl_call Bd71 rfl (c_spec_l8Find (M := (Less (Past c1 f1 h3) x4)) s3591.1 r3698 (a5.sub Less.sub) (((Frz.os Frz.int)).val o3 Less.sub Less.not) hO.less.fut O8) ?_
           rintro _ f2 ⟨rfl, f3⟩
           have h0 := h0.ext f3
           have a0 := a0.cn f3
           have a5 := a5.ext f3
           have a4 := a4.ext f3
           have a9 := a9.ext f3
           have n2 := n2.ext f3
           have o3 := o3.ext f3
           have hC := hC.ext f3
           have hO := hO.ext f3
           refine pl_val (.tuple #[(.int .i64 r3701.1), (.bool r3701.2)]) (y_move rfl) ?_
           refine pl_val (.int .i64 r3701.1) (y_extract rfl (by kernel_rfl)) ?_
           refine pl_val (.bool r3701.2) (y_extract rfl (by kernel_rfl)) ?_
           refine pl_val (.int .i64 r3701.1) (y_assign rfl) ?_
           refine pl_val (.bool r3701.2) (y_assign rfl) ?_
           refine c_nil ?_
           refine c_sr ?_
           refine pl_val (.bool r3701.2) (y_move rfl) ?_
           refine pl_val (.bool (!r3701.2)) (y_not rfl) ?_
           refine c_nil ?_
           rcases bif_some hs with ⟨x5, hs⟩ | ⟨x5, hs⟩
           ·refine c_condT (congrArg Value.bool x5) ?_
            refine c_sr ?_
            refine pl_val (.slice e7 e8 e9) (y_move rfl) ?_
            refine pl_val (.slice k0 k1 k2) (y_move rfl) ?_
            obtain ⟨b7, R4, s5, O9, hO, e0⟩ := frz_own (Frz.os Frz.int) o3 hO
            have h0 := h0.sub (M' := b7) s5
            have a5 := a5.sub (M' := b7) s5
            have a4 := a4.sub (M' := b7) s5
            have a9 := a9.sub (M' := b7) s5
            have hK := hK.trans O9
            obtain ⟨r3705, P0, hs⟩ := bind_some hs
            refine pl_call Bd84 rfl (c_spec_l8Put (M := b7) s3591.1 r3698 a5 e0 hO.fut P0) ?_
            rintro _ e1 ⟨D4, D5, D6, rfl, h4, o4⟩
            have hK := hK.trans (show Keeps w b7 (Past b7 f2 e1) from Keeps.past hC.size)
            have h0 := h0.ext h4
            have a0 := a0.cn h4
            have a5 := a5.ext h4
            have a4 := a4.ext h4
            have a9 := a9.ext h4
            have e0 := e0.ext h4
            have hC := hC.ext h4
            have hO := hO.past h4
            have h0 := h0.sub (M' := (Past b7 f2 e1)) (fun g hg => .inl hg.1)
            have a5 := a5.sub (M' := (Past b7 f2 e1)) (fun g hg => .inl hg.1)
            have a4 := a4.sub (M' := (Past b7 f2 e1)) (fun g hg => .inl hg.1)
            have a9 := a9.sub (M' := (Past b7 f2 e1)) (fun g hg => .inl hg.1)
            have e0 := e0.sub (M' := (Past b7 f2 e1)) (fun g hg => .inl hg.1)
            refine pl_val (.slice D4 D5 D6) (y_assign rfl) ?_
            refine c_nil ?_
            refine c_region ?_
            refine pl_val (.slice d2 d3 d4) (y_move rfl) ?_
            refine pl_val (.slice k0 k1 k2) (y_move rfl) ?_
            obtain ⟨D7, x6, P1, D8, h5, D9⟩ := new_block e1 [(.slice k0 k1 k2)] 25
            refine pl_val (w' := D7) (.slice (some ⟨x6, 0, none⟩) 1 1) (y_bslice rfl (by rw [P1, D8]; kernel_rfl)) ?_
            have h0 := h0.ext h5
            have a0 := a0.cn h5
            have a4 := a4.ext h5
            have a9 := a9.ext h5
            have e0 := e0.ext h5
            have o4 := o4.ext h5
            have hC := hC.ext h5
            have hO := hO.new1 h5 D8 D9.lt
            have x7 := os_of_box (r := (RT.rs (RT.int .i64))) (M := (Past b7 f2 e1)) (css := [[(.slice k0 k1 k2)]]) (fps := [([] : List Nat)]) (xs := ([r3698] : List (List Int))) D9 ⟨(rs_unval e0), trivial⟩ (Nat.le_of_ble_eq_true rfl) (List.nodup_cons.2 ⟨(fun h => nomatch h), List.nodup_nil⟩)
            have x7 : (RT.os 25 (RT.rs (RT.int .i64))).val (Past b7 f2 e1) D7 (.slice (some ⟨x6, 0, none⟩) 1 1) [r3698] [x6] := x7
            obtain ⟨y3710, P2, hs⟩ := bind_some hs
            have hO := hO.fr1
            obtain ⟨x8, x9, y0, P3, P4, P5, k3, P6, y1⟩ := app_os Rw49 P2 a4 x7 hO.inM (fun g hg hq => hO.apart g hq (mem_l hg))
            have n3 := os_block a4
            refine pl_val (w' := P3) (.slice x8 x9 y0) (y_append rfl rfl (P5 _)) ?_
            have hO := hO.fr1
            have hO := hO.fr1
            have h0 := h0.mt k3 hO n3
            have a0 := a0.ap k3 hO n3 (mem_r (mem_l (List.mem_singleton.2 rfl)))
            have a9 := a9.mt k3 hO n3
            have e0 := e0.mt k3 hO n3
            have o4 := o4.mt k3 hO n3
            have hC := hC.st k3 hO n3
            have hO := hO.eat k3 P6 (os_nodup y1) y1.fpl
            refine pl_val (.slice x8 x9 y0) (y_assign rfl) ?_
            refine c_nil ?_
            cases hs
            have hO := hO.fr1
            have hO := hO.fr1
            exact ⟨_, (Past b7 f2 e1), D4, D5, D6, x8, x9, y0, P4, fr_ovl 172 ⟨rfl, rfl, rfl, rfl, rfl, rfl, rfl, rfl, rfl, trivial⟩, hC, hO, hK, h0, a0, a9, o4, y1⟩
           refine c_condF (congrArg Value.bool x5) ?_
           refine wp_skip ?_
           cases hs
           have hO := hO.drop
           have hO := hO.fr1
           have hO := hO.fr1
           exact ⟨_, (Past c1 f1 h3), e7, e8, e9, d2, d3, d4, j7, fr_ovl 172 ⟨rfl, rfl, rfl, rfl, rfl, rfl, rfl, rfl, rfl, trivial⟩, hC, hO, hK, h0, a0, a9, a5, a4⟩
          refine c_condF (congrArg Value.bool x2) ?_
          refine wp_skip ?_
          cases hs
          obtain ⟨s6, R5, y2, P7, hO, P8⟩ := frz_own (Frz.os Frz.int) d8 hO
          have h0 := h0.sub (M' := s6) y2
          have a5 := a5.sub (M' := s6) y2
          have a4 := a4.sub (M' := s6) y2
          have hK := hK.trans P7
          have hO := hO.fr1
          have hO := hO.fr1
          exact ⟨_, s6, e7, e8, e9, d2, d3, d4, j7, fr_ovl 172 ⟨rfl, rfl, rfl, rfl, rfl, rfl, rfl, rfl, rfl, trivial⟩, hC, hO, hK, h0, a0, P8, a5, a4⟩
         rintro b8 g9 ⟨σ, f0, r8, s0, s1, s2, s3, s4, o2, rfl, hC, hO, hK, h0, a0, y3, y4, y5⟩
         refine c_region ?_
         refine pl_val (.slice d5 d6 d7) (y_move rfl) ?_
         refine pl_val (.int .i64 s2566.2.2) (y_move rfl) ?_
         refine pl_val (.int .i64 (w64 (s2566.2.2 + 1))) (y_add rfl rfl) ?_
         obtain ⟨r3714, P9, hs⟩ := bind_some hs
         refine pl_call Bd87 rfl (c_spec_l8Next (M := f0) s3674.2.2 (w64 (s2566.2.2 + 1)) y3 hO.fut P9) ?_
         rintro _ R6 ⟨s7, s8, s9, E0, rfl, k4, Q0, Q1⟩
         have h0 := h0.ext k4
         have a0 := a0.cn k4
         have y3 := y3.ext k4
         have y4 := y4.ext k4
         have y5 := y5.ext k4
         have hC := hC.ext k4
         have hO := Own.join0 hO k4 Q1
         have hO := hO.perm (R := E0 ++ (o2 ++ (([a1]) ++ ([])))) (by simp)
         refine pl_val (.tuple #[(.slice s7 s8 s9), (.bool r3714.2)]) (y_move rfl) ?_
         refine pl_val (.slice s7 s8 s9) (y_extract rfl (by kernel_rfl)) ?_
         refine pl_val (.bool r3714.2) (y_extract rfl (by kernel_rfl)) ?_
         refine pl_val (.slice s7 s8 s9) (y_assign rfl) ?_
         refine pl_val (.bool r3714.2) (y_assign rfl) ?_
         refine c_nil ?_
         cases hs
         have hO := hO.fr2
         have hO := hO.fr1
         have hO := hO.fr2
         exact ⟨_, f0, r8, s0, s1, s2, s3, s4, o2, s7, s8, s9, E0, fr_ovl 172 ⟨rfl, rfl, rfl, rfl, rfl, rfl, rfl, rfl, rfl, trivial⟩, hC, hO, hK, h0, a0, y4, y5, Q0⟩
        refine c_condF (congrArg Value.bool x1) ?_
        refine wp_exit ?_
        cases hs
        have hO := hO.fr2
        have hO := hO.fr2
        have hO := hO.fr2
        exact ⟨rfl, _, e6, e7, e8, e9, d2, d3, d4, j7, d5, d6, d7, o1, fr_ovl 172 ⟨rfl, rfl, rfl, rfl, rfl, rfl, rfl, trivial⟩, hC, hO, hK, h0, a0, a5, a4, d8⟩
       ·skip
        have hO := hO.fr2
        have hO := hO.fr1
        have hO := hO.fr2
        exact ⟨_, d1, m5, m6, m7, m8, m9, n0, n1, w6, w7, w8, N6, fr_ovl 172 ⟨rfl, rfl, rfl, rfl, rfl, rfl, rfl, rfl, rfl, trivial⟩, hC, hO, hK, h0, a0, j4, j5, w9⟩
       cases o3595 with
       | nx _ => exact True.intro
       | rt r_ =>
        have hs := after_rt hs
        intro b8 k5 hK
        cases hs
        exact hK
       | br s3591 =>
        have hs := after_br hs
        rintro b8 b3 ⟨σ, g8, r1, r2, r3, r4, r5, r6, r7, C8, C9, D0, x0, rfl, hC, hO, hK, h0, a0, Q2, Q3, R7⟩
        refine c_region ?_
        refine pl_val (.int .i64 k3334) (y_move rfl) ?_
        refine pl_val (.int .i64 (w64 (k3334 + 1))) (y_add rfl rfl) ?_
        refine pl_val (.int .i64 (w64 (k3334 + 1))) (y_assign rfl) ?_
        refine c_nil ?_
        cases hs
        have hO := hO.fr1
        have hO := hO.drop
        have hO := hO.fr1
        have hO := hO.fr1
        exact ⟨_, g8, r1, r2, r3, r4, r5, r6, r7, fr_ovl 172 ⟨rfl, rfl, rfl, rfl, rfl, rfl, congrArg (Value.int .i64) hw, trivial⟩, hC, hO, hK, h0, a0, Q2, Q3⟩
      ·skip
       have hO := hO.fr1
       have hO := hO.fr1
       exact ⟨_, g3, l9, m0, m1, g4, g5, g6, o0, fr_ovl 172 ⟨rfl, rfl, rfl, rfl, rfl, rfl, rfl, trivial⟩, hC, hO, hK, h0, a0, q3, m3⟩
      cases o3336 with
      | nx _ => exact True.intro
      | rt r_ =>
       have hs := after_rt hs
       intro b8 k5 hK
       cases hs
       exact hK
      | br s3332 =>
       have hs := after_br hs
       rintro b8 b4 ⟨σ, j3, q4, q5, q6, q7, q8, q9, r0, rfl, hC, hO, hK, h0, a0, Q4, Q5⟩
       refine c_region ?_
       refine pl_val (.int .i64 s2566.2.2) (y_move rfl) ?_
       refine pl_val (.int .i64 (w64 (s2566.2.2 + 1))) (y_add rfl rfl) ?_
       refine pl_val (.int .i64 (w64 (s2566.2.2 + 1))) (y_assign rfl) ?_
       refine c_nil ?_
       cases hs
       have hO := hO.fr1
       have hO := hO.fr1
       exact ⟨_, j3, q4, q5, q6, q7, q8, q9, r0, fr_ovl 172 ⟨rfl, rfl, rfl, rfl, rfl, rfl, trivial⟩, hC, hO, hK, h0, a0, Q4, Q5⟩
     refine c_condF (congrArg Value.bool w5) ?_
     refine wp_exit ?_
     cases hs
     have hO := hO.fr1
     have hO := hO.fr1
     exact ⟨rfl, _, g3, l9, m0, m1, g4, g5, g6, o0, fr_ovl 172 ⟨rfl, rfl, trivial⟩, hC, hO, hK, h0, a0, q3, m3⟩
    ·skip
     have hO := hO.fr1
     have hO := hO.fr1
     exact ⟨_, f9, p5, p6, p7, p8, p9, q0, q1, fr_ovl 172 ⟨rfl, rfl, rfl, rfl, rfl, rfl, trivial⟩, hC, hO, hK, h0, a0, M2, M3⟩
    cases o2570 with
    | nx _ => exact True.intro
    | rt r_ =>
     have hs := after_rt hs
     intro b8 k5 hK
     cases hs
     exact hK
    | br s2566 =>
     have hs := after_br hs
     rintro b8 b6 ⟨σ, m2, j0, j1, j2, B9, C0, C1, w4, rfl, hC, hO, hK, h0, a0, E1, R8⟩
     refine c_sr ?_
     refine pl_val (.slice j0 j1 j2) (y_move rfl) ?_
     refine pl_val (.slice j0 j1 j2) (y_move rfl) ?_
     refine pl_val (.int .i64 (s2566.1.length : Int)) (y_len' Sl49 (rs_len E1) rfl) ?_
     refine pl_val (.int .i64 r9) (y_move rfl) ?_
     refine pl_val (.bool (decide ((s2566.1.length : Int) ≤ r9))) (y_leq rfl rfl) ?_
     refine pl_val (.slice j0 j1 j2) (y_assign rfl) ?_
     refine pl_val (.bool (decide ((s2566.1.length : Int) ≤ r9))) (y_assign rfl) ?_
     refine c_nil ?_
     refine wp_ret ?_
     cases hs
     exact ⟨_, j0, j1, j2, fr_ovl 172 ⟨rfl, rfl, trivial⟩, hC, (Keeps.out hK E1)⟩

def k_spec_l2Args (M : Nat → Prop) (w0 : World) (r : (List Int)) (a : Act) (w : World) : Prop :=
  ∃ (σ : Nat → Value) (ra0 : Option Addr) (rn0 rc0 : Nat) (rf0 : List Nat), a = fr 27 (ovl σ [(6, (.slice ra0 rn0 rc0))]) ∧ Chg [] w0 w ∧ (RT.os 3 (RT.int .i64)).val M w (.slice ra0 rn0 rc0) r rf0 ∧ Own (Nw w0 []) (fun _ => True) w (rf0 ++ ([]))
def s_spec_l2Args (n : Int) (arity : Int) (at_ : Int) : Option ((List Int)) :=
  (mks arity (0 : Int)).bind fun y2 =>
  (iter (S := Int × Int × (List Int)) (R := (List Int)) (fun s17 =>
  (bif (decide (0 ≤ s17.2.1)) then (nz n).bind fun u26 =>
  (idx s17.2.2 s17.2.1).bind fun x27 =>
  (nz n).bind fun u30 =>
  some (.nx (w64 (Int.tdiv s17.1 n), w64 (s17.2.1 - 1), List.set s17.2.2 (Int.toNat s17.2.1) (Int.tmod s17.1 n))) else some (.br (s17.1, s17.2.1, s17.2.2)))) FU (at_, w64 (arity - 1), y2)).bind fun o21 => after o21 (fun r_ => some r_) (fun s17 =>
  some s17.2.2)
set_option maxHeartbeats 4000000 in
theorem c_spec_l2Args {M : Nat → Prop} {w : World}  (n : Int) (arity : Int) (at_ : Int)  (hM : ∀ g, w.heap.size ≤ g → M g) {r : (List Int)} (hs : s_spec_l2Args n arity at_ = some r) :
    Gives Try.prog 70 [(.int .i64 n), (.int .i64 arity), (.int .i64 at_)] w (fun v w' => ∃ (ra0 : Option Addr) (rn0 rc0 : Nat) (rf0 : List Nat), v = (.slice ra0 rn0 rc0) ∧ Chg [] w w' ∧ (RT.os 3 (RT.int .i64)).val M w' (.slice ra0 rn0 rc0) r rf0 ∧ Own (Nw w []) (fun _ => True) w' (rf0 ++ ([]))) := by
 refine calls_fr Try.func70 rfl Try.ntmps70 (Nat.le_of_ble_eq_true rfl) ?_
 have hO := Own.start (N := Nw w []) hM Nw.fut
 have hC := Chg.refl [] w
 unfold s_spec_l2Args at hs
 refine wp_mono (Q := KPost (k_spec_l2Args M w r)) ?_ (fun e a a7 h => ?_)
 rotate_left
 ·cases e
  case ret =>
   obtain ⟨σ, ra0, rn0, rc0, rf0, rfl, hrest⟩ := h
   exact ret1x Try.results70 (res_tmp rfl) ⟨ra0, rn0, rc0, rf0, rfl, hrest⟩
  all_goals exact (h : False).elim
 refine c_sr ?_
 refine pl_val (.slice none 0 0) (y_assign rfl) ?_
 refine c_nil ?_
 refine c_sr ?_
 refine pl_val (.int .i64 arity) (y_move rfl) ?_
 obtain ⟨y2, b5, hs⟩ := bind_some hs
 obtain ⟨a0, a1, a2, a7, b6, b7, b1, b8, a8⟩ := mk_os (M := M) (w := w) (r := (RT.int .i64)) Rw25 b5 (fun _ _ => ⟨rfl, rfl⟩)
 refine pl_val (w' := a7) (.slice a0 a1 a2) (y_make rfl rfl b7) ?_
 have hC := hC.ext b1
 have hO := hO.new b1 b8 (os_nodup a8) a8.fpl
 refine pl_val (.slice a0 a1 a2) (y_assign rfl) ?_
 refine c_nil ?_
 refine c_seq ?_
 refine c_sr ?_
 refine pl_val (.int .i64 arity) (y_move rfl) ?_
 refine pl_val (.int .i64 (w64 (arity - 1))) (y_sub rfl rfl) ?_
 refine pl_val (.int .i64 (w64 (arity - 1))) (y_assign rfl) ?_
 refine c_nil ?_
 obtain ⟨o21, b9, hs⟩ := bind_some hs
 refine wp_block ?_
 refine wp_iter (id := 0) (I := fun s17 a a3 => ∃ (σ : Nat → Value) (a4 : List Nat), a = fr 27 (ovl σ [(0, (.int .i64 n)), (2, (.int .i64 s17.1)), (7, (.slice a0 a1 a2)), (8, (.int .i64 s17.2.1))]) ∧ Chg [] w a3 ∧ Own (Nw w []) M a3 (a4 ++ []) ∧ (RT.os 3 (RT.int .i64)).val M a3 (.slice a0 a1 a2) s17.2.2 a4) (J := fun s17 a a3 => ∃ (σ : Nat → Value) (a6 : List Nat), a = fr 27 (ovl σ [(7, (.slice a0 a1 a2))]) ∧ Chg [] w a3 ∧ Own (Nw w []) M a3 (a6 ++ []) ∧ (RT.os 3 (RT.int .i64)).val M a3 (.slice a0 a1 a2) s17.2.2 a6) (K := (k_spec_l2Args M w)) ?_ FU (at_, w64 (arity - 1), y2) o21 _ _ ?_ b9 ?_
 ·rintro s17 o21 a a3 ⟨σ, a4, rfl, hC, hO, a5⟩ hs
  refine c_seq ?_
  refine c_sr ?_
  refine pl_val (.int .i64 s17.2.1) (y_move rfl) ?_
  refine pl_val (.bool (decide (0 ≤ s17.2.1))) (y_geq rfl rfl) ?_
  refine c_nil ?_
  rcases bif_some hs with ⟨a9, hs⟩ | ⟨a9, hs⟩
  ·refine c_condT (congrArg Value.bool a9) ?_
   refine wp_skip ?_
   refine c_seq ?_
   refine wp_block ?_
   refine c_sr ?_
   refine pl_val (.slice a0 a1 a2) (y_move rfl) ?_
   refine pl_val (.int .i64 s17.2.1) (y_move rfl) ?_
   refine pl_val (.int .i64 s17.1) (y_move rfl) ?_
   refine pl_val (.int .i64 n) (y_move rfl) ?_
   obtain ⟨u26, c0, hs⟩ := bind_some hs
   refine pl_val (.int .i64 (Int.tmod s17.1 n)) (y_rem rfl rfl (nz_ne c0)) ?_
   obtain ⟨x27, c1, hs⟩ := bind_some hs
   obtain ⟨b2, d1, b3, c2, c3, d2, d3⟩ := os_idx Sl25 Sz3 a5 c1
   refine pl_val (.pointer (some ⟨b2, 0 + Int.toNat s17.2.1 * 1, none⟩)) (c3 _ _ _ _ _ _ _ _ _ rfl rfl) ?_
   obtain ⟨c4, c5, c6, b4, c7, b0⟩ := os_store (P := Try.prog) (c' := [(.int .i64 (Int.tmod s17.1 n))]) b3 a5 c2 (fun g hg => hO.inM g (os_block a5 g (by simpa using hg))) ⟨rfl, rfl⟩ List.nodup_nil (fun _ h => nomatch h) (fun _ h => .inl h)
   have c8 : ∀ q ∈ [b2], q ∈ a4 := fun q hq => os_block a5 q (by rw [b3]; exact hq)
   refine pl_skip (w' := c4) (ys_store rfl rfl (c6 _ _ rfl Sz3)) ?_
   have hC := hC.st b4 hO c8
   have hO := hO.grow b4 (fun q hq => .inl ((c7 q hq).resolve_right (fun h => nomatch h))) (os_nodup b0) b0.fpl
   refine c_nil ?_
   refine c_region ?_
   refine pl_val (.int .i64 s17.1) (y_move rfl) ?_
   refine pl_val (.int .i64 n) (y_move rfl) ?_
   obtain ⟨u30, c9, hs⟩ := bind_some hs
   refine pl_val (.int .i64 (w64 (Int.tdiv s17.1 n))) (y_quo rfl rfl (nz_ne c9)) ?_
   refine pl_val (.int .i64 (w64 (Int.tdiv s17.1 n))) (y_assign rfl) ?_
   refine c_nil ?_
   refine c_region ?_
   refine pl_val (.int .i64 s17.2.1) (y_move rfl) ?_
   refine pl_val (.int .i64 (w64 (s17.2.1 - 1))) (y_sub rfl rfl) ?_
   refine pl_val (.int .i64 (w64 (s17.2.1 - 1))) (y_assign rfl) ?_
   refine c_nil ?_
   cases hs
   exact ⟨_, c5, fr_ovl 27 ⟨rfl, rfl, rfl, rfl, trivial⟩, hC, hO, b0⟩
  refine c_condF (congrArg Value.bool a9) ?_
  refine wp_exit ?_
  cases hs
  exact ⟨rfl, _, a4, fr_ovl 27 ⟨rfl, trivial⟩, hC, hO, a5⟩
 ·skip
  exact ⟨_, b6, fr_ovl 27 ⟨rfl, rfl, rfl, rfl, trivial⟩, hC, hO, a8⟩
 cases o21 with
 | nx _ => exact True.intro
 | rt r_ =>
  have hs := after_rt hs
  intro a0 a7 hK
  cases hs
  exact hK
 | br s17 =>
  have hs := after_br hs
  rintro a0 a3 ⟨σ, a6, rfl, hC, hO, d0⟩
  refine c_sr ?_
  refine pl_val (.slice a0 a1 a2) (y_move rfl) ?_
  refine pl_val (.slice a0 a1 a2) (y_assign rfl) ?_
  refine c_nil ?_
  refine wp_ret ?_
  cases hs
  exact ⟨_, a0, a1, a2, a6, fr_ovl 27 ⟨rfl, trivial⟩, hC, d0, hO.top⟩

def k_spec_l18Before (M : Nat → Prop) (w0 : World) (r : Bool) (a : Act) (w : World) : Prop :=
  ∃ (σ : Nat → Value) , a = fr 41 (ovl σ [(4, (.bool r))]) ∧ Chg [] w0 w
def s_spec_l18Before (r_ : List (List Int)) (s_ : List (List Int)) : Option (Bool) :=
  (bif ((r_.length : Int) != (s_.length : Int)) then some (decide ((r_.length : Int) < (s_.length : Int))) else (forC (S := Unit) (R := Bool) (fun k40 s38 =>
  (idx r_ k40).bind fun x56 =>
  (idx s_ k40).bind fun x60 =>
  (s_spec_l1Same x56 x60).bind fun r66 =>
  (bif (!r66) then (idx r_ k40).bind fun x69 =>
  (idx s_ k40).bind fun x73 =>
  (s_spec_l3Less x69 x73).bind fun r78 =>
  some (.rt r78) else some (.nx ()))) 0 (r_.length : Int) ()).bind fun o42 => after o42 (fun r_ => some r_) (fun s38 =>
  some false))
set_option maxHeartbeats 4000000 in
theorem c_spec_l18Before {M : Nat → Prop} {w : World} {pa0 : Option Addr} {pn0 pc0 : Nat} {pa1 : Option Addr} {pn1 pc1 : Nat} (r_ : List (List Int)) (s_ : List (List Int)) (h0 : (RT.rs (RT.rs (RT.int .i64))).val M w (.slice pa0 pn0 pc0) r_ ([])) (h1 : (RT.rs (RT.rs (RT.int .i64))).val M w (.slice pa1 pn1 pc1) s_ ([])) (hM : ∀ g, w.heap.size ≤ g → M g) {r : Bool} (hs : s_spec_l18Before r_ s_ = some r) :
    Gives Try.prog 90 [(.slice pa0 pn0 pc0), (.slice pa1 pn1 pc1)] w (fun v w' => v = (.bool r) ∧ Chg [] w w') := by
 refine calls_fr Try.func90 rfl Try.ntmps90 (Nat.le_of_ble_eq_true rfl) ?_
 have hO := Own.start (N := Nw w []) hM Nw.fut
 have hC := Chg.refl [] w
 unfold s_spec_l18Before at hs
 refine wp_mono (Q := KPost (k_spec_l18Before M w r)) ?_ (fun e a b2 h => ?_)
 rotate_left
 ·cases e
  case ret =>
   obtain ⟨σ, rfl, hrest⟩ := h
   exact ret1x Try.results90 (res_tmp rfl) ⟨rfl, hrest⟩
  all_goals exact (h : False).elim
 refine c_sr ?_
 refine pl_val (.bool false) (y_assign rfl) ?_
 refine c_nil ?_
 refine c_seq ?_
 refine c_sr ?_
 refine pl_val (.slice pa0 pn0 pc0) (y_move rfl) ?_
 refine pl_val (.int .i64 (r_.length : Int)) (y_len' Sl49 (rs_len h0) rfl) ?_
 refine pl_val (.slice pa1 pn1 pc1) (y_move rfl) ?_
 refine pl_val (.int .i64 (s_.length : Int)) (y_len' Sl49 (rs_len h1) rfl) ?_
 refine pl_val (.bool ((r_.length : Int) != (s_.length : Int))) (y_neq rfl rfl) ?_
 refine c_nil ?_
 rcases bif_some hs with ⟨a9, hs⟩ | ⟨a9, hs⟩
 ·refine c_condT (congrArg Value.bool a9) ?_
  refine c_sr ?_
  refine pl_val (.slice pa0 pn0 pc0) (y_move rfl) ?_
  refine pl_val (.int .i64 (r_.length : Int)) (y_len' Sl49 (rs_len h0) rfl) ?_
  refine pl_val (.slice pa1 pn1 pc1) (y_move rfl) ?_
  refine pl_val (.int .i64 (s_.length : Int)) (y_len' Sl49 (rs_len h1) rfl) ?_
  refine pl_val (.bool (decide ((r_.length : Int) < (s_.length : Int)))) (y_lss rfl rfl) ?_
  refine pl_val (.bool (decide ((r_.length : Int) < (s_.length : Int)))) (y_assign rfl) ?_
  refine c_nil ?_
  refine wp_ret ?_
  cases hs
  exact ⟨_, fr_ovl 41 ⟨rfl, trivial⟩, hC⟩
 refine c_condF (congrArg Value.bool a9) ?_
 refine wp_skip ?_
 refine c_seq ?_
 refine c_sr ?_
 refine pl_val (.int .i64 0) (y_assign rfl) ?_
 refine c_nil ?_
 obtain ⟨o42, b3, hs⟩ := bind_some hs
 refine wp_block ?_
 refine wp_forC (id := 0) (r_.length : Int) (I := fun k40 s38 a a0 => ∃ (σ : Nat → Value), a = fr 41 (ovl σ [(0, (.slice pa0 pn0 pc0)), (1, (.slice pa1 pn1 pc1)), (5, (.int .i64 k40))]) ∧ Chg [] w a0 ∧ Own (Nw w []) M a0 ([]) ∧ (RT.rs (RT.rs (RT.int .i64))).val M a0 (.slice pa0 pn0 pc0) r_ ([]) ∧ (RT.rs (RT.rs (RT.int .i64))).val M a0 (.slice pa1 pn1 pc1) s_ ([])) (J := fun s38 a a0 => ∃ (σ : Nat → Value), a = fr 41 (ovl σ []) ∧ Chg [] w a0 ∧ Own (Nw w []) M a0 ([]) ∧ (RT.rs (RT.rs (RT.int .i64))).val M a0 (.slice pa0 pn0 pc0) r_ ([]) ∧ (RT.rs (RT.rs (RT.int .i64))).val M a0 (.slice pa1 pn1 pc1) s_ ([])) (K := (k_spec_l18Before M w)) ?_ ?_ 0 () o42 _ _ ?_ b3 ?_
 ·rintro k40 s38 a a0 ⟨σ, rfl, hC, hO, h0, h1⟩ hlt
  refine c_seq ?_
  refine c_sr ?_
  refine pl_val (.int .i64 k40) (y_move rfl) ?_
  refine pl_val (.slice pa0 pn0 pc0) (y_move rfl) ?_
  refine pl_val (.int .i64 (r_.length : Int)) (y_len' Sl49 (rs_len h0) rfl) ?_
  refine pl_val (.bool (decide (k40 < (r_.length : Int)))) (y_lss rfl rfl) ?_
  refine c_nil ?_
  refine c_condF (congrArg Value.bool (decide_eq_false hlt)) ?_
  refine wp_exit ?_
  exact ⟨rfl, _, fr_ovl 41 trivial, hC, hO, h0, h1⟩
 ·rintro k40 s38 o42 a a0 ⟨σ, rfl, hC, hO, h0, h1⟩ hlt hw hs
  refine c_seq ?_
  refine c_sr ?_
  refine pl_val (.int .i64 k40) (y_move rfl) ?_
  refine pl_val (.slice pa0 pn0 pc0) (y_move rfl) ?_
  refine pl_val (.int .i64 (r_.length : Int)) (y_len' Sl49 (rs_len h0) rfl) ?_
  refine pl_val (.bool (decide (k40 < (r_.length : Int)))) (y_lss rfl rfl) ?_
  refine c_nil ?_
  refine c_condT (congrArg Value.bool (decide_eq_true hlt)) ?_
  refine wp_skip ?_
  refine c_seq ?_
  refine wp_block ?_
  refine c_seq ?_
  refine x_start [] Mx rfl ?_
  have a6 := Chg.drew a0
  generalize World.drew a0 = b4 at a6 ⊢
  have h0 := h0.ext a6
  have h1 := h1.ext a6
  have hC := hC.ext a6
  have hO := hO.ext a6
  have hS := Chg.refl [] b4
  refine x_p 0 (.slice pa0 pn0 pc0) rfl (by kernel_rfl)  (fun _ => y_move rfl) (fun _ => hS) ?_
  refine x_p 1 (.int .i64 k40) rfl (by kernel_rfl)  (fun _ => y_move rfl) (fun _ => hS) ?_
  obtain ⟨x56, b5, hs⟩ := bind_some hs
  obtain ⟨b6, b7, b8, b9⟩ := rs_idx Sl49 Sz25 h0 b5
  refine x_p 2 (.pointer (some ⟨b6, b7, none⟩)) rfl (by kernel_rfl)  (fun _ => b8 _ _ _ _ _ _ _ _ _ rfl rfl) (fun _ => hS) ?_
  obtain ⟨f5, c0, a3⟩ := at_load Ag25 Sz25 (fun _ => rfl) b9
  obtain ⟨c1, c2, c3, rfl⟩ := rs_sl a3
  refine x_l 3 (.slice c1 c2 c3) rfl (by kernel_rfl)  (fun w' hw' => y_load rfl (c0 w' hw')) hS ?_
  refine x_p 4 (.slice pa1 pn1 pc1) rfl (by kernel_rfl)  (fun _ => y_move rfl) (fun _ => hS) ?_
  refine x_p 5 (.int .i64 k40) rfl (by kernel_rfl)  (fun _ => y_move rfl) (fun _ => hS) ?_
  obtain ⟨x60, c4, hs⟩ := bind_some hs
  obtain ⟨c5, c6, c7, c8⟩ := rs_idx Sl49 Sz25 h1 c4
  refine x_p 6 (.pointer (some ⟨c5, c6, none⟩)) rfl (by kernel_rfl)  (fun _ => c7 _ _ _ _ _ _ _ _ _ rfl rfl) (fun _ => hS) ?_
  obtain ⟨f6, c9, a4⟩ := at_load Ag25 Sz25 (fun _ => rfl) c8
  obtain ⟨d0, d1, d2, rfl⟩ := rs_sl a4
  refine x_l 7 (.slice d0 d1 d2) rfl (by kernel_rfl)  (fun w' hw' => y_load rfl (c9 w' hw')) hS ?_
  refine x_one (i := 8) (by kernel_rfl) ?_
  obtain ⟨r66, d3, hs⟩ := bind_some hs
  refine xk_call (b := false) rfl  Bd89 rfl (c_spec_l1Same (M := M) x56 x60 a3 a4 hO.fut d3) rfl (by rintro _ _ _ ⟨rfl, a2⟩; exact hS.ext a2) ?_
  rintro _ b1 ⟨rfl, a2⟩
  have h0 := h0.ext a2
  have h1 := h1.ext a2
  have a3 := a3.ext a2
  have a4 := a4.ext a2
  have hC := hC.ext a2
  have hO := hO.ext a2
  have hS := hS.ext a2
  refine x_p 9 (.bool (!r66)) rfl (by kernel_rfl)  (fun _ => y_not rfl) (fun _ => hS) ?_
  refine x_end (by kernel_rfl) ?_
  clear hS
  rcases bif_some hs with ⟨b0, hs⟩ | ⟨b0, hs⟩
  ·refine c_condT (congrArg Value.bool b0) ?_
   refine c_seq ?_
   refine x_start [] Mx rfl ?_
   have a5 := Chg.drew b1
   generalize World.drew b1 = d4 at a5 ⊢
   have h0 := h0.ext a5
   have h1 := h1.ext a5
   have a3 := a3.ext a5
   have a4 := a4.ext a5
   have hC := hC.ext a5
   have hO := hO.ext a5
   have hS := Chg.refl [] d4
   refine x_p 0 (.slice pa0 pn0 pc0) rfl (by kernel_rfl)  (fun _ => y_move rfl) (fun _ => hS) ?_
   refine x_p 1 (.int .i64 k40) rfl (by kernel_rfl)  (fun _ => y_move rfl) (fun _ => hS) ?_
   obtain ⟨x69, d5, hs⟩ := bind_some hs
   obtain ⟨d6, d7, d8, d9⟩ := rs_idx Sl49 Sz25 h0 d5
   refine x_p 2 (.pointer (some ⟨d6, d7, none⟩)) rfl (by kernel_rfl)  (fun _ => d8 _ _ _ _ _ _ _ _ _ rfl rfl) (fun _ => hS) ?_
   obtain ⟨f7, e0, a7⟩ := at_load Ag25 Sz25 (fun _ => rfl) d9
   obtain ⟨e1, e2, e3, rfl⟩ := rs_sl a7
   refine x_l 3 (.slice e1 e2 e3) rfl (by kernel_rfl)  (fun w' hw' => y_load rfl (e0 w' hw')) hS ?_
   refine x_p 4 (.slice pa1 pn1 pc1) rfl (by kernel_rfl)  (fun _ => y_move rfl) (fun _ => hS) ?_
   refine x_p 5 (.int .i64 k40) rfl (by kernel_rfl)  (fun _ => y_move rfl) (fun _ => hS) ?_
   obtain ⟨x73, e4, hs⟩ := bind_some hs
   obtain ⟨e5, e6, e7, e8⟩ := rs_idx Sl49 Sz25 h1 e4
   refine x_p 6 (.pointer (some ⟨e5, e6, none⟩)) rfl (by kernel_rfl)  (fun _ => e7 _ _ _ _ _ _ _ _ _ rfl rfl) (fun _ => hS) ?_
   obtain ⟨f8, e9, a8⟩ := at_load Ag25 Sz25 (fun _ => rfl) e8
   obtain ⟨f0, f1, f2, rfl⟩ := rs_sl a8
   refine x_l 7 (.slice f0 f1 f2) rfl (by kernel_rfl)  (fun w' hw' => y_load rfl (e9 w' hw')) hS ?_
   refine x_one (i := 8) (by kernel_rfl) ?_
   obtain ⟨r78, f3, hs⟩ := bind_some hs
   refine xk_call (b := false) rfl  Bd88 rfl (c_spec_l3Less (M := M) x69 x73 a7 a8 hO.fut f3) rfl (by rintro _ _ _ ⟨rfl, a1⟩; exact hS.ext a1) ?_
   rintro _ f9 ⟨rfl, a1⟩
   have h0 := h0.ext a1
   have h1 := h1.ext a1
   have a3 := a3.ext a1
   have a4 := a4.ext a1
   have a7 := a7.ext a1
   have a8 := a8.ext a1
   have hC := hC.ext a1
   have hO := hO.ext a1
   have hS := hS.ext a1
   refine x_p 9 (.bool r78) rfl (by kernel_rfl)  (fun _ => y_assign rfl) (fun _ => hS) ?_
   refine x_end (by kernel_rfl) ?_
   clear hS
   refine wp_ret ?_
   cases hs
   exact ⟨_, fr_ovl 41 ⟨rfl, trivial⟩, hC⟩
  refine c_condF (congrArg Value.bool b0) ?_
  refine wp_skip ?_
  refine c_region ?_
  refine pl_val (.int .i64 k40) (y_move rfl) ?_
  refine pl_val (.int .i64 (w64 (k40 + 1))) (y_add rfl rfl) ?_
  refine pl_val (.int .i64 (w64 (k40 + 1))) (y_assign rfl) ?_
  refine c_nil ?_
  cases hs
  exact ⟨_, fr_ovl 41 ⟨rfl, rfl, congrArg (Value.int .i64) hw, trivial⟩, hC, hO, h0, h1⟩
 ·skip
  exact ⟨_, fr_ovl 41 ⟨rfl, rfl, rfl, trivial⟩, hC, hO, h0, h1⟩
 cases o42 with
 | nx _ => exact True.intro
 | rt r_ =>
  have hs := after_rt hs
  intro f4 b2 hK
  cases hs
  exact hK
 | br s38 =>
  have hs := after_br hs
  rintro f4 a0 ⟨σ, rfl, hC, hO, h0, h1⟩
  refine c_sr ?_
  refine pl_val (.bool false) (y_assign rfl) ?_
  refine c_nil ?_
  refine wp_ret ?_
  cases hs
  exact ⟨_, fr_ovl 41 ⟨rfl, trivial⟩, hC⟩

def k_spec_l8Same (M : Nat → Prop) (w0 : World) (r : Bool) (a : Act) (w : World) : Prop :=
  ∃ (σ : Nat → Value) , a = fr 33 (ovl σ [(4, (.bool r))]) ∧ Chg [] w0 w
def s_spec_l8Same (r_ : List (List Int)) (s_ : List (List Int)) : Option (Bool) :=
  (iter (S := Int) (R := Bool) (fun s20 =>
  (bif ((decide (s20 < (r_.length : Int))) && (decide (s20 < (s_.length : Int)))) then (idx r_ s20).bind fun x32 =>
  (idx s_ s20).bind fun x36 =>
  (s_spec_l1Same x32 x36).bind fun r41 =>
  (bif (!r41) then some (.rt false) else some (.nx (w64 (s20 + 1)))) else some (.br s20))) FU 0).bind fun o24 => after o24 (fun r_ => some r_) (fun s20 =>
  some ((r_.length : Int) == (s_.length : Int)))
set_option maxHeartbeats 4000000 in
theorem c_spec_l8Same {M : Nat → Prop} {w : World} {pa0 : Option Addr} {pn0 pc0 : Nat} {pa1 : Option Addr} {pn1 pc1 : Nat} (r_ : List (List Int)) (s_ : List (List Int)) (h0 : (RT.rs (RT.rs (RT.int .i64))).val M w (.slice pa0 pn0 pc0) r_ ([])) (h1 : (RT.rs (RT.rs (RT.int .i64))).val M w (.slice pa1 pn1 pc1) s_ ([])) (hM : ∀ g, w.heap.size ≤ g → M g) {r : Bool} (hs : s_spec_l8Same r_ s_ = some r) :
    Gives Try.prog 91 [(.slice pa0 pn0 pc0), (.slice pa1 pn1 pc1)] w (fun v w' => v = (.bool r) ∧ Chg [] w w') := by
 refine calls_fr Try.func91 rfl Try.ntmps91 (Nat.le_of_ble_eq_true rfl) ?_
 have hO := Own.start (N := Nw w []) hM Nw.fut
 have hC := Chg.refl [] w
 unfold s_spec_l8Same at hs
 refine wp_mono (Q := KPost (k_spec_l8Same M w r)) ?_ (fun e a b1 h => ?_)
 rotate_left
 ·cases e
  case ret =>
   obtain ⟨σ, rfl, hrest⟩ := h
   exact ret1x Try.results91 (res_tmp rfl) ⟨rfl, hrest⟩
  all_goals exact (h : False).elim
 refine c_sr ?_
 refine pl_val (.bool false) (y_assign rfl) ?_
 refine c_nil ?_
 refine c_seq ?_
 refine c_sr ?_
 refine pl_val (.int .i64 0) (y_assign rfl) ?_
 refine c_nil ?_
 obtain ⟨o24, b2, hs⟩ := bind_some hs
 refine wp_block ?_
 refine wp_iter (id := 0) (I := fun s20 a a0 => ∃ (σ : Nat → Value), a = fr 33 (ovl σ [(0, (.slice pa0 pn0 pc0)), (1, (.slice pa1 pn1 pc1)), (5, (.int .i64 s20))]) ∧ Chg [] w a0 ∧ Own (Nw w []) M a0 ([]) ∧ (RT.rs (RT.rs (RT.int .i64))).val M a0 (.slice pa0 pn0 pc0) r_ ([]) ∧ (RT.rs (RT.rs (RT.int .i64))).val M a0 (.slice pa1 pn1 pc1) s_ ([])) (J := fun s20 a a0 => ∃ (σ : Nat → Value), a = fr 33 (ovl σ [(0, (.slice pa0 pn0 pc0)), (1, (.slice pa1 pn1 pc1))]) ∧ Chg [] w a0 ∧ Own (Nw w []) M a0 ([]) ∧ (RT.rs (RT.rs (RT.int .i64))).val M a0 (.slice pa0 pn0 pc0) r_ ([]) ∧ (RT.rs (RT.rs (RT.int .i64))).val M a0 (.slice pa1 pn1 pc1) s_ ([])) (K := (k_spec_l8Same M w)) ?_ FU 0 o24 _ _ ?_ b2 ?_
 ·rintro s20 o24 a a0 ⟨σ, rfl, hC, hO, h0, h1⟩ hs
  refine c_seq ?_
  refine c_seq ?_
  refine c_mid (I := fun a a4 => ∃ (σ : Nat → Value), a = fr 33 (ovl σ [(0, (.slice pa0 pn0 pc0)), (1, (.slice pa1 pn1 pc1)), (5, (.int .i64 s20)), (15, (.bool ((decide (s20 < (r_.length : Int))) && (decide (s20 < (s_.length : Int))))))]) ∧ Chg [] a0 a4) ?_ ?_
  ·have hMid := Chg.refl [] a0
   refine c_region ?_
   refine pl_val (.int .i64 s20) (y_move rfl) ?_
   refine pl_val (.slice pa0 pn0 pc0) (y_move rfl) ?_
   refine pl_val (.int .i64 (r_.length : Int)) (y_len' Sl49 (rs_len h0) rfl) ?_
   refine pl_val (.bool (decide (s20 < (r_.length : Int)))) (y_lss rfl rfl) ?_
   refine pl_val (.bool (decide (s20 < (r_.length : Int)))) (y_move rfl) ?_
   rcases Bool.eq_false_or_eq_true ((decide (s20 < (r_.length : Int)))) with a1 | a1
   ·skip
    refine pl_yes (.int .i64 s20) (tg := 10) (by kernel_rfl) (congrArg Value.bool a1) (y_move rfl) ?_
    refine pl_yes (.slice pa1 pn1 pc1) (tg := 10) (by kernel_rfl) (congrArg Value.bool a1) (y_move rfl) ?_
    refine pl_yes (.int .i64 (s_.length : Int)) (tg := 10) (by kernel_rfl) (congrArg Value.bool a1) (y_len' Sl49 (rs_len h1) rfl) ?_
    refine pl_yes (.bool (decide (s20 < (s_.length : Int)))) (tg := 10) (by kernel_rfl) (congrArg Value.bool a1) (y_lss rfl rfl) ?_
    refine pl_val (.bool ((decide (s20 < (r_.length : Int))) && (decide (s20 < (s_.length : Int))))) (y_pick_t (congrArg Value.bool a1) (congrArg Value.bool (by rw [a1]; rfl))) ?_
    refine c_nil ?_
    exact ⟨_, fr_ovl 33 ⟨rfl, rfl, rfl, rfl, trivial⟩, hMid⟩
   refine pl_not (tg := 10) (by kernel_rfl) (congrArg Value.bool a1) ?_
   refine pl_not (tg := 10) (by kernel_rfl) (congrArg Value.bool a1) ?_
   refine pl_not (tg := 10) (by kernel_rfl) (congrArg Value.bool a1) ?_
   refine pl_not (tg := 10) (by kernel_rfl) (congrArg Value.bool a1) ?_
   refine pl_val (.bool ((decide (s20 < (r_.length : Int))) && (decide (s20 < (s_.length : Int))))) (y_pick_f (congrArg Value.bool a1) (congrArg Value.bool (by rw [a1]; rfl))) ?_
   refine c_nil ?_
   exact ⟨_, fr_ovl 33 ⟨rfl, rfl, rfl, rfl, trivial⟩, hMid⟩
  rintro b0 a4 ⟨σ, rfl, a5⟩
  have h0 := h0.ext a5
  have h1 := h1.ext a5
  have hC := hC.ext a5
  have hO := hO.ext a5
  rcases bif_some hs with ⟨a8, hs⟩ | ⟨a8, hs⟩
  ·refine c_condT (congrArg Value.bool a8) ?_
   refine wp_skip ?_
   refine c_seq ?_
   refine wp_block ?_
   refine c_seq ?_
   refine x_start [] Mx rfl ?_
   have a3 := Chg.drew a4
   generalize World.drew a4 = b3 at a3 ⊢
   have h0 := h0.ext a3
   have h1 := h1.ext a3
   have hC := hC.ext a3
   have hO := hO.ext a3
   have hS := Chg.refl [] b3
   refine x_p 0 (.slice pa0 pn0 pc0) rfl (by kernel_rfl)  (fun _ => y_move rfl) (fun _ => hS) ?_
   refine x_p 1 (.int .i64 s20) rfl (by kernel_rfl)  (fun _ => y_move rfl) (fun _ => hS) ?_
   obtain ⟨x32, b4, hs⟩ := bind_some hs
   obtain ⟨b5, b6, b7, b8⟩ := rs_idx Sl49 Sz25 h0 b4
   refine x_p 2 (.pointer (some ⟨b5, b6, none⟩)) rfl (by kernel_rfl)  (fun _ => b7 _ _ _ _ _ _ _ _ _ rfl rfl) (fun _ => hS) ?_
   obtain ⟨d3, b9, a6⟩ := at_load Ag25 Sz25 (fun _ => rfl) b8
   obtain ⟨c0, c1, c2, rfl⟩ := rs_sl a6
   refine x_l 3 (.slice c0 c1 c2) rfl (by kernel_rfl)  (fun w' hw' => y_load rfl (b9 w' hw')) hS ?_
   refine x_p 4 (.slice pa1 pn1 pc1) rfl (by kernel_rfl)  (fun _ => y_move rfl) (fun _ => hS) ?_
   refine x_p 5 (.int .i64 s20) rfl (by kernel_rfl)  (fun _ => y_move rfl) (fun _ => hS) ?_
   obtain ⟨x36, c3, hs⟩ := bind_some hs
   obtain ⟨c4, c5, c6, c7⟩ := rs_idx Sl49 Sz25 h1 c3
   refine x_p 6 (.pointer (some ⟨c4, c5, none⟩)) rfl (by kernel_rfl)  (fun _ => c6 _ _ _ _ _ _ _ _ _ rfl rfl) (fun _ => hS) ?_
   obtain ⟨d4, c8, a7⟩ := at_load Ag25 Sz25 (fun _ => rfl) c7
   obtain ⟨c9, d0, d1, rfl⟩ := rs_sl a7
   refine x_l 7 (.slice c9 d0 d1) rfl (by kernel_rfl)  (fun w' hw' => y_load rfl (c8 w' hw')) hS ?_
   refine x_one (i := 8) (by kernel_rfl) ?_
   obtain ⟨r41, d2, hs⟩ := bind_some hs
   refine xk_call (b := false) rfl  Bd89 rfl (c_spec_l1Same (M := M) x32 x36 a6 a7 hO.fut d2) rfl (by rintro _ _ _ ⟨rfl, a2⟩; exact hS.ext a2) ?_
   rintro _ d5 ⟨rfl, a2⟩
   have h0 := h0.ext a2
   have h1 := h1.ext a2
   have a6 := a6.ext a2
   have a7 := a7.ext a2
   have hC := hC.ext a2
   have hO := hO.ext a2
   have hS := hS.ext a2
   refine x_p 9 (.bool (!r41)) rfl (by kernel_rfl)  (fun _ => y_not rfl) (fun _ => hS) ?_
   refine x_end (by kernel_rfl) ?_
   clear hS
   rcases bif_some hs with ⟨a9, hs⟩ | ⟨a9, hs⟩
   ·refine c_condT (congrArg Value.bool a9) ?_
    refine c_sr ?_
    refine pl_val (.bool false) (y_assign rfl) ?_
    refine c_nil ?_
    refine wp_ret ?_
    cases hs
    exact ⟨_, fr_ovl 33 ⟨rfl, trivial⟩, hC⟩
   refine c_condF (congrArg Value.bool a9) ?_
   refine wp_skip ?_
   refine c_region ?_
   refine pl_val (.int .i64 s20) (y_move rfl) ?_
   refine pl_val (.int .i64 (w64 (s20 + 1))) (y_add rfl rfl) ?_
   refine pl_val (.int .i64 (w64 (s20 + 1))) (y_assign rfl) ?_
   refine c_nil ?_
   cases hs
   exact ⟨_, fr_ovl 33 ⟨rfl, rfl, rfl, trivial⟩, hC, hO, h0, h1⟩
  refine c_condF (congrArg Value.bool a8) ?_
  refine wp_exit ?_
  cases hs
  exact ⟨rfl, _, fr_ovl 33 ⟨rfl, rfl, trivial⟩, hC, hO, h0, h1⟩
 ·skip
  exact ⟨_, fr_ovl 33 ⟨rfl, rfl, rfl, trivial⟩, hC, hO, h0, h1⟩
 cases o24 with
 | nx _ => exact True.intro
 | rt r_ =>
  have hs := after_rt hs
  intro b0 b1 hK
  cases hs
  exact hK
 | br s20 =>
  have hs := after_br hs
  rintro b0 a0 ⟨σ, rfl, hC, hO, h0, h1⟩
  refine c_sr ?_
  refine pl_val (.slice pa0 pn0 pc0) (y_move rfl) ?_
  refine pl_val (.int .i64 (r_.length : Int)) (y_len' Sl49 (rs_len h0) rfl) ?_
  refine pl_val (.slice pa1 pn1 pc1) (y_move rfl) ?_
  refine pl_val (.int .i64 (s_.length : Int)) (y_len' Sl49 (rs_len h1) rfl) ?_
  refine pl_val (.bool ((r_.length : Int) == (s_.length : Int))) (y_eql rfl rfl) ?_
  refine pl_val (.bool ((r_.length : Int) == (s_.length : Int))) (y_assign rfl) ?_
  refine c_nil ?_
  refine wp_ret ?_
  cases hs
  exact ⟨_, fr_ovl 33 ⟨rfl, trivial⟩, hC⟩

theorem Sl59 : SlT Try.prog 59 49 := Try.underlying59

theorem Sz49 : SzT Try.prog 49 1 := ⟨_, rfl, rfl⟩

theorem Ag49 : AggT Try.prog 49 false := fun _ => by kernel_rfl

theorem Bd90 : Bodied Try.prog 90 := bodied Try.func90 (by kernel_rfl) rfl

theorem Bd91 : Bodied Try.prog 91 := bodied Try.func91 (by kernel_rfl) rfl

theorem Rw59 : RowT Try.prog 59 49 1 [(.slice none 0 0)] := ⟨Try.underlying59, ⟨_, _, rfl, rfl, rfl, rfl, by decide⟩, rfl, by decide⟩

def k_spec_l18Put (M : Nat → Prop) (w0 : World) (r : (List (List (List Int)))) (a : Act) (w : World) : Prop :=
  ∃ (σ : Nat → Value) (ra0 : Option Addr) (rn0 rc0 : Nat), a = fr 45 (ovl σ [(4, (.slice ra0 rn0 rc0))]) ∧ Chg [] w0 w ∧ (RT.rs (RT.rs (RT.rs (RT.int .i64)))).val (Past M w0 w) w (.slice ra0 rn0 rc0) r []
def s_spec_l18Put (list : List (List (List Int))) (r_ : List (List Int)) : Option ((List (List (List Int)))) :=
  (iter (S := Int) (R := (List (List (List Int)))) (fun s11 =>
  (bif (decide (s11 < (list.length : Int))) then (idx list s11).bind fun x18 =>
  (s_spec_l18Before x18 r_).bind fun r23 =>
  (bif r23 then some (.nx (w64 (s11 + 1))) else some (.br s11)) else some (.br s11))) FU 0).bind fun o15 => after o15 (fun r_ => some r_) (fun s11 =>
  ((bif (decide (s11 < (list.length : Int))) then (idx list s11).bind fun x29 =>
  (s_spec_l8Same x29 r_).bind fun r34 =>
  some r34 else some false)).bind fun s25 =>
  (bif s25 then some list else (slc list 0 s11).bind fun y38 =>
  (slc list s11 (list.length : Int)).bind fun y41 =>
  (app ([]) y38).bind fun y47 =>
  (app y47 ([r_])).bind fun y52 =>
  (app y52 y41).bind fun y55 =>
  some y55))
set_option maxHeartbeats 4000000 in
theorem c_spec_l18Put {M : Nat → Prop} {w : World} {pa0 : Option Addr} {pn0 pc0 : Nat} {pa1 : Option Addr} {pn1 pc1 : Nat} (list : List (List (List Int))) (r_ : List (List Int)) (h0 : (RT.rs (RT.rs (RT.rs (RT.int .i64)))).val M w (.slice pa0 pn0 pc0) list ([])) (h1 : (RT.rs (RT.rs (RT.int .i64))).val M w (.slice pa1 pn1 pc1) r_ ([])) (hM : ∀ g, w.heap.size ≤ g → M g) {r : (List (List (List Int)))} (hs : s_spec_l18Put list r_ = some r) :
    Gives Try.prog 72 [(.slice pa0 pn0 pc0), (.slice pa1 pn1 pc1)] w (fun v w' => ∃ (ra0 : Option Addr) (rn0 rc0 : Nat), v = (.slice ra0 rn0 rc0) ∧ Chg [] w w' ∧ (RT.rs (RT.rs (RT.rs (RT.int .i64)))).val (Past M w w') w' (.slice ra0 rn0 rc0) r []) := by
 refine calls_fr Try.func72 rfl Try.ntmps72 (Nat.le_of_ble_eq_true rfl) ?_
 have hO := Own.start (N := Nw w []) hM Nw.fut
 have hC := Chg.refl [] w
 unfold s_spec_l18Put at hs
 refine wp_mono (Q := KPost (k_spec_l18Put M w r)) ?_ (fun e a k4 h => ?_)
 rotate_left
 ·cases e
  case ret =>
   obtain ⟨σ, ra0, rn0, rc0, rfl, hrest⟩ := h
   exact ret1x Try.results72 (res_tmp rfl) ⟨ra0, rn0, rc0, rfl, hrest⟩
  all_goals exact (h : False).elim
 refine c_sr ?_
 refine pl_val (.slice none 0 0) (y_assign rfl) ?_
 refine c_nil ?_
 refine c_sr ?_
 refine pl_val (.int .i64 0) (y_assign rfl) ?_
 refine c_nil ?_
 refine c_seq ?_
 obtain ⟨o15, k5, hs⟩ := bind_some hs
 refine wp_block ?_
 refine wp_iter (id := 0) (I := fun s11 a a4 => ∃ (σ : Nat → Value), a = fr 45 (ovl σ [(0, (.slice pa0 pn0 pc0)), (1, (.slice pa1 pn1 pc1)), (5, (.int .i64 s11))]) ∧ Chg [] w a4 ∧ Own (Nw w []) M a4 ([]) ∧ (RT.rs (RT.rs (RT.rs (RT.int .i64)))).val M a4 (.slice pa0 pn0 pc0) list ([]) ∧ (RT.rs (RT.rs (RT.int .i64))).val M a4 (.slice pa1 pn1 pc1) r_ ([])) (J := fun s11 a a4 => ∃ (σ : Nat → Value), a = fr 45 (ovl σ [(0, (.slice pa0 pn0 pc0)), (1, (.slice pa1 pn1 pc1)), (5, (.int .i64 s11))]) ∧ Chg [] w a4 ∧ Own (Nw w []) M a4 ([]) ∧ (RT.rs (RT.rs (RT.rs (RT.int .i64)))).val M a4 (.slice pa0 pn0 pc0) list ([]) ∧ (RT.rs (RT.rs (RT.int .i64))).val M a4 (.slice pa1 pn1 pc1) r_ ([])) (K := (k_spec_l18Put M w)) ?_ FU 0 o15 _ _ ?_ k5 ?_
 ·rintro s11 o15 a a4 ⟨σ, rfl, hC, hO, h0, h1⟩ hs
  refine c_seq ?_
  refine c_sr ?_
  refine pl_val (.int .i64 s11) (y_move rfl) ?_
  refine pl_val (.slice pa0 pn0 pc0) (y_move rfl) ?_
  refine pl_val (.int .i64 (list.length : Int)) (y_len' Sl59 (rs_len h0) rfl) ?_
  refine pl_val (.bool (decide (s11 < (list.length : Int)))) (y_lss rfl rfl) ?_
  refine pl_val (.bool (decide (s11 < (list.length : Int)))) (y_move rfl) ?_
  rcases bif_some hs with ⟨a2, hs⟩ | ⟨a2, hs⟩
  ·skip
   refine pl_yes (.slice pa0 pn0 pc0) (tg := 10) (by kernel_rfl) (congrArg Value.bool a2) (y_move rfl) ?_
   refine pl_yes (.int .i64 s11) (tg := 10) (by kernel_rfl) (congrArg Value.bool a2) (y_move rfl) ?_
   obtain ⟨x18, k6, hs⟩ := bind_some hs
   obtain ⟨k7, k8, k9, l0⟩ := rs_idx Sl59 Sz49 h0 k6
   refine pl_yes (.pointer (some ⟨k7, k8, none⟩)) (tg := 10) (by kernel_rfl) (congrArg Value.bool a2) (k9 _ _ _ _ _ _ _ _ _ rfl rfl) ?_
   obtain ⟨t5, l1, e3⟩ := at_load Ag49 Sz49 (fun _ => rfl) l0
   obtain ⟨l2, l3, l4, rfl⟩ := rs_sl e3
   refine pl_yes (.slice l2 l3 l4) (tg := 10) (by kernel_rfl) (congrArg Value.bool a2) (y_load rfl (l1 _ (Chg.refl _ _))) ?_
   refine pl_yes (.slice pa1 pn1 pc1) (tg := 10) (by kernel_rfl) (congrArg Value.bool a2) (y_move rfl) ?_
   obtain ⟨r23, l5, hs⟩ := bind_some hs
   refine pl_cally (tg := 10) (by kernel_rfl) (congrArg Value.bool a2) Bd90 rfl (c_spec_l18Before (M := M) x18 r_ e3 h1 hO.fut l5) ?_
   rintro _ t6 ⟨rfl, c7⟩
   have h0 := h0.ext c7
   have h1 := h1.ext c7
   have e3 := e3.ext c7
   have hC := hC.ext c7
   have hO := hO.ext c7
   refine pl_val (.bool r23) (y_pick_t (congrArg Value.bool a2) rfl) ?_
   refine c_nil ?_
   rcases bif_some hs with ⟨f9, hs⟩ | ⟨f9, hs⟩
   ·refine c_condT (congrArg Value.bool f9) ?_
    refine wp_skip ?_
    refine wp_block ?_
    refine c_region ?_
    refine pl_val (.int .i64 s11) (y_move rfl) ?_
    refine pl_val (.int .i64 (w64 (s11 + 1))) (y_add rfl rfl) ?_
    refine pl_val (.int .i64 (w64 (s11 + 1))) (y_assign rfl) ?_
    refine c_nil ?_
    cases hs
    exact ⟨_, fr_ovl 45 ⟨rfl, rfl, rfl, trivial⟩, hC, hO, h0, h1⟩
   refine c_condF (congrArg Value.bool f9) ?_
   refine wp_exit ?_
   cases hs
   exact ⟨rfl, _, fr_ovl 45 ⟨rfl, rfl, rfl, trivial⟩, hC, hO, h0, h1⟩
  refine pl_not (tg := 10) (by kernel_rfl) (congrArg Value.bool a2) ?_
  refine pl_not (tg := 10) (by kernel_rfl) (congrArg Value.bool a2) ?_
  refine pl_not (tg := 10) (by kernel_rfl) (congrArg Value.bool a2) ?_
  refine pl_not (tg := 10) (by kernel_rfl) (congrArg Value.bool a2) ?_
  refine pl_not (tg := 10) (by kernel_rfl) (congrArg Value.bool a2) ?_
  refine pl_not (tg := 10) (by kernel_rfl) (congrArg Value.bool a2) ?_
  refine pl_val (.bool false) (y_pick_f (congrArg Value.bool a2) rfl) ?_
  refine c_nil ?_
  refine c_condF (by rfl) ?_
  refine wp_exit ?_
  cases hs
  exact ⟨rfl, _, fr_ovl 45 ⟨rfl, rfl, rfl, trivial⟩, hC, hO, h0, h1⟩
 ·skip
  exact ⟨_, fr_ovl 45 ⟨rfl, rfl, rfl, trivial⟩, hC, hO, h0, h1⟩
 cases o15 with
 | nx _ => exact True.intro
 | rt r_ =>
  have hs := after_rt hs
  intro i5 k4 hK
  cases hs
  exact hK
 | br s11 =>
  have hs := after_br hs
  rintro i5 a4 ⟨σ, rfl, hC, hO, h0, h1⟩
  refine c_seq ?_
  refine c_seq ?_
  obtain ⟨s25, l6, hs⟩ := bind_some hs
  refine c_mid (I := fun a e4 => ∃ (σ : Nat → Value), a = fr 45 (ovl σ [(0, (.slice pa0 pn0 pc0)), (1, (.slice pa1 pn1 pc1)), (5, (.int .i64 s11)), (31, (.bool s25))]) ∧ Chg [] a4 e4) ?_ ?_
  ·replace hs := l6
   have hMid := Chg.refl [] a4
   refine c_region ?_
   refine pl_val (.int .i64 s11) (y_move rfl) ?_
   refine pl_val (.slice pa0 pn0 pc0) (y_move rfl) ?_
   refine pl_val (.int .i64 (list.length : Int)) (y_len' Sl59 (rs_len h0) rfl) ?_
   refine pl_val (.bool (decide (s11 < (list.length : Int)))) (y_lss rfl rfl) ?_
   refine pl_val (.bool (decide (s11 < (list.length : Int)))) (y_move rfl) ?_
   rcases bif_some hs with ⟨a3, hs⟩ | ⟨a3, hs⟩
   ·skip
    refine pl_yes (.slice pa0 pn0 pc0) (tg := 24) (by kernel_rfl) (congrArg Value.bool a3) (y_move rfl) ?_
    refine pl_yes (.int .i64 s11) (tg := 24) (by kernel_rfl) (congrArg Value.bool a3) (y_move rfl) ?_
    obtain ⟨x29, l7, hs⟩ := bind_some hs
    obtain ⟨l8, l9, m0, m1⟩ := rs_idx Sl59 Sz49 h0 l7
    refine pl_yes (.pointer (some ⟨l8, l9, none⟩)) (tg := 24) (by kernel_rfl) (congrArg Value.bool a3) (m0 _ _ _ _ _ _ _ _ _ rfl rfl) ?_
    obtain ⟨t7, m2, e5⟩ := at_load Ag49 Sz49 (fun _ => rfl) m1
    obtain ⟨m3, m4, m5, rfl⟩ := rs_sl e5
    refine pl_yes (.slice m3 m4 m5) (tg := 24) (by kernel_rfl) (congrArg Value.bool a3) (y_load rfl (m2 _ (Chg.refl _ _))) ?_
    refine pl_yes (.slice pa1 pn1 pc1) (tg := 24) (by kernel_rfl) (congrArg Value.bool a3) (y_move rfl) ?_
    obtain ⟨r34, m6, hs⟩ := bind_some hs
    refine pl_cally (tg := 24) (by kernel_rfl) (congrArg Value.bool a3) Bd91 rfl (c_spec_l8Same (M := M) x29 r_ e5 h1 hO.fut m6) ?_
    rintro _ t8 ⟨rfl, b4⟩
    have h0 := h0.ext b4
    have h1 := h1.ext b4
    have e5 := e5.ext b4
    have hMid := hMid.ext b4
    have hC := hC.ext b4
    have hO := hO.ext b4
    refine pl_val (.bool r34) (y_pick_t (congrArg Value.bool a3) rfl) ?_
    refine c_nil ?_
    cases hs
    exact ⟨_, fr_ovl 45 ⟨rfl, rfl, rfl, rfl, trivial⟩, hMid⟩
   refine pl_not (tg := 24) (by kernel_rfl) (congrArg Value.bool a3) ?_
   refine pl_not (tg := 24) (by kernel_rfl) (congrArg Value.bool a3) ?_
   refine pl_not (tg := 24) (by kernel_rfl) (congrArg Value.bool a3) ?_
   refine pl_not (tg := 24) (by kernel_rfl) (congrArg Value.bool a3) ?_
   refine pl_not (tg := 24) (by kernel_rfl) (congrArg Value.bool a3) ?_
   refine pl_not (tg := 24) (by kernel_rfl) (congrArg Value.bool a3) ?_
   refine pl_val (.bool false) (y_pick_f (congrArg Value.bool a3) rfl) ?_
   refine c_nil ?_
   cases hs
   exact ⟨_, fr_ovl 45 ⟨rfl, rfl, rfl, rfl, trivial⟩, hMid⟩
  rintro i5 e4 ⟨σ, rfl, e6⟩
  have h0 := h0.ext e6
  have h1 := h1.ext e6
  have hC := hC.ext e6
  have hO := hO.ext e6
  rcases bif_some hs with ⟨g0, hs⟩ | ⟨g0, hs⟩
  ·refine c_condT (congrArg Value.bool g0) ?_
   refine c_sr ?_
   refine pl_val (.slice pa0 pn0 pc0) (y_move rfl) ?_
   refine pl_val (.slice pa0 pn0 pc0) (y_assign rfl) ?_
   refine c_nil ?_
   refine wp_ret ?_
   cases hs
   exact ⟨_, pa0, pn0, pc0, fr_ovl 45 ⟨rfl, trivial⟩, hC, (Keeps.out Keeps.refl h0)⟩
  refine c_condF (congrArg Value.bool g0) ?_
  refine wp_skip ?_
  refine c_seq ?_
  refine x_start [4, 7, 11] Mx rfl ?_
  have c8 := Chg.drew e4
  generalize World.drew e4 = g1 at c8 ⊢
  have h0 := h0.ext c8
  have h1 := h1.ext c8
  have hC := hC.ext c8
  have hO := hO.ext c8
  have hS := Chg.refl [] g1
  refine x_p 1 (.slice pa0 pn0 pc0) rfl (by kernel_rfl)  (fun _ => y_move rfl) (fun _ => hS) ?_
  refine x_p 2 (.int .i64 s11) rfl (by kernel_rfl)  (fun _ => y_move rfl) (fun _ => hS) ?_
  obtain ⟨y38, m7, hs⟩ := bind_some hs
  obtain ⟨m8, m9, n0, a0, t9, n1, u0⟩ := rs_part Try.underlying59 Sz49 h0 m7
  refine x_p 3 (.slice m8 m9 n0) rfl (by kernel_rfl)  (fun _ => y_slice rfl rfl rfl (n1 rfl _)) (fun _ => hS) ?_
  refine x_p 5 (.slice pa1 pn1 pc1) rfl (by kernel_rfl)  (fun _ => y_move rfl) (fun _ => hS) ?_
  refine x_p 8 (.slice pa0 pn0 pc0) rfl (by kernel_rfl)  (fun _ => y_move rfl) (fun _ => hS) ?_
  refine x_p 9 (.int .i64 s11) rfl (by kernel_rfl)  (fun _ => y_move rfl) (fun _ => hS) ?_
  obtain ⟨y41, n2, hs⟩ := bind_some hs
  obtain ⟨n3, n4, n5, a1, u1, u2, n6⟩ := rs_part Try.underlying59 Sz49 h0 n2
  refine x_p 10 (.slice n3 n4 n5) rfl (by kernel_rfl)  (fun _ => y_slice rfl rfl rfl (n6 rfl _)) (fun _ => hS) ?_
  refine x_two (i := 0) (j := 6) (by kernel_rfl) ?_ ?_
  ·skip
   obtain ⟨g2, g3, n7, i6, a8, i7⟩ := new_block g1 [] 49
   refine xk_val (w' := g2) (b := false) (.slice (some ⟨g3, 0, none⟩) 0 0) rfl  (y_bslice rfl (by rw [n7, i6]; kernel_rfl)) rfl (fun _ => hS.ext a8) ?_
   have h0 := h0.ext a8
   have h1 := h1.ext a8
   have a0 := a0.ext a8
   have a1 := a1.ext a8
   have hC := hC.ext a8
   have hO := hO.new1 a8 i6 i7.lt
   have b5 := os_of_box (r := (RT.os 25 (RT.os 3 (RT.int .i64)))) (M := M) (css := []) (fps := []) (xs := ([] : List (List (List Int)))) i7 trivial (Nat.zero_le _) (List.nodup_cons.2 ⟨(fun h => nomatch h), List.nodup_nil⟩)
   have b5 : (RT.os 49 (RT.os 25 (RT.os 3 (RT.int .i64)))).val M g2 (.slice (some ⟨g3, 0, none⟩) 0 0) [] [g3] := b5
   have hS := hS.ext a8
   refine x_two (i := 4) (j := 6) (by kernel_rfl) ?_ ?_
   ·skip
    obtain ⟨b6, u3, e7, n8, hO, i9⟩ := os_inner (Frz.os (Frz.os Frz.int)) b5 hO
    have h0 := h0.sub (M' := b6) e7
    have h1 := h1.sub (M' := b6) e7
    have a0 := a0.sub (M' := b6) e7
    have a1 := a1.sub (M' := b6) e7
    have hK := n8
    obtain ⟨y47, c9, hs⟩ := bind_some hs
    obtain ⟨n9, o0, o1, j0, u4, o2, b7, o3, b8⟩ := app_rs Rw59 c9 i9 a0 hO.inM
    have d0 := os_block i9
    refine xk_val (w' := j0) (b := true) (.slice n9 o0 o1) rfl  (y_append rfl rfl (o2 _)) rfl (fun h => nomatch h) ?_
    have h0 := h0.mt b7 hO d0
    have h1 := h1.mt b7 hO d0
    have a0 := a0.mt b7 hO d0
    have a1 := a1.mt b7 hO d0
    have hC := hC.st b7 hO d0
    have hO := hO.grow b7 o3 (os_nodup b8) b8.fpl
    refine x_one (i := 6) (by kernel_rfl) ?_
    obtain ⟨j1, g4, o4, j2, b0, j3⟩ := new_block j0 [(.slice pa1 pn1 pc1)] 49
    refine xk_val (w' := j1) (b := true) (.slice (some ⟨g4, 0, none⟩) 1 1) rfl  (y_bslice rfl (by rw [o4, j2]; kernel_rfl)) rfl (fun h => nomatch h) ?_
    have h0 := h0.ext b0
    have h1 := h1.ext b0
    have a0 := a0.ext b0
    have a1 := a1.ext b0
    have b8 := b8.ext b0
    have hC := hC.ext b0
    have hO := hO.new1 b0 j2 j3.lt
    have g5 := os_of_box (r := (RT.rs (RT.rs (RT.int .i64)))) (M := b6) (css := [[(.slice pa1 pn1 pc1)]]) (fps := [([] : List Nat)]) (xs := ([r_] : List (List (List Int)))) j3 ⟨(rs_unval h1), trivial⟩ (Nat.le_of_ble_eq_true rfl) (List.nodup_cons.2 ⟨(fun h => nomatch h), List.nodup_nil⟩)
    have g5 : (RT.os 49 (RT.rs (RT.rs (RT.int .i64)))).val b6 j1 (.slice (some ⟨g4, 0, none⟩) 1 1) [r_] [g4] := g5
    refine x_one (i := 7) (by kernel_rfl) ?_
    obtain ⟨y52, d1, hs⟩ := bind_some hs
    have hO := hO.fr1
    obtain ⟨o5, o6, o7, o8, u5, o9, b9, p0, e8⟩ := app_os Rw59 d1 b8 g5 hO.inM (fun g hg hq => hO.apart g hq (mem_l hg))
    have d2 := os_block b8
    refine xk_val (w' := o8) (b := true) (.slice o5 o6 o7) rfl  (y_append rfl rfl (o9 _)) rfl (fun h => nomatch h) ?_
    have hO := hO.fr1
    have hO := hO.fr1
    have h0 := h0.mt b9 hO d2
    have h1 := h1.mt b9 hO d2
    have a0 := a0.mt b9 hO d2
    have a1 := a1.mt b9 hO d2
    have hC := hC.st b9 hO d2
    have hO := hO.eat b9 p0 (os_nodup e8) e8.fpl
    refine x_one (i := 11) (by kernel_rfl) ?_
    obtain ⟨y55, d3, hs⟩ := bind_some hs
    obtain ⟨g6, g7, g8, p1, u6, p2, c0, p3, g9⟩ := app_rs Rw59 d3 e8 a1 hO.inM
    have d4 := os_block e8
    refine xk_val (w' := p1) (b := true) (.slice g6 g7 g8) rfl  (y_append rfl rfl (p2 _)) rfl (fun h => nomatch h) ?_
    have h0 := h0.mt c0 hO d4
    have h1 := h1.mt c0 hO d4
    have a0 := a0.mt c0 hO d4
    have a1 := a1.mt c0 hO d4
    have hC := hC.st c0 hO d4
    have hO := hO.grow c0 p3 (os_nodup g9) g9.fpl
    refine x_p 12 (.slice g6 g7 g8) rfl (by kernel_rfl)  (fun _ => y_assign rfl) (fun h => nomatch h) ?_
    refine x_end (by kernel_rfl) ?_
    clear hS
    refine wp_ret ?_
    cases hs
    obtain ⟨e9, u7, f0, p4, hO, p5⟩ := frz_own (Frz.os (Frz.rs (Frz.rs Frz.int))) g9 hO
    have h0 := h0.sub (M' := e9) f0
    have h1 := h1.sub (M' := e9) f0
    have a0 := a0.sub (M' := e9) f0
    have a1 := a1.sub (M' := e9) f0
    have hK := hK.trans p4
    exact ⟨_, g6, g7, g8, fr_ovl 45 ⟨rfl, trivial⟩, hC, (Keeps.out hK p5)⟩
   ·skip
    obtain ⟨j4, h2, p6, j5, a5, j6⟩ := new_block g2 [(.slice pa1 pn1 pc1)] 49
    refine xk_val (w' := j4) (b := false) (.slice (some ⟨h2, 0, none⟩) 1 1) rfl  (y_bslice rfl (by rw [p6, j5]; kernel_rfl)) rfl (fun _ => hS.ext a5) ?_
    have h0 := h0.ext a5
    have h1 := h1.ext a5
    have a0 := a0.ext a5
    have a1 := a1.ext a5
    have b5 := b5.ext a5
    have hC := hC.ext a5
    have hO := hO.new1 a5 j5 j6.lt
    have b1 := os_of_box (r := (RT.rs (RT.rs (RT.int .i64)))) (M := M) (css := [[(.slice pa1 pn1 pc1)]]) (fps := [([] : List Nat)]) (xs := ([r_] : List (List (List Int)))) j6 ⟨(rs_unval h1), trivial⟩ (Nat.le_of_ble_eq_true rfl) (List.nodup_cons.2 ⟨(fun h => nomatch h), List.nodup_nil⟩)
    have b1 : (RT.os 49 (RT.rs (RT.rs (RT.int .i64)))).val M j4 (.slice (some ⟨h2, 0, none⟩) 1 1) [r_] [h2] := b1
    have hS := hS.ext a5
    refine x_one (i := 4) (by kernel_rfl) ?_
    have hO := hO.fr1
    obtain ⟨d5, u9, d6, p7, hO, j7⟩ := os_inner (Frz.os (Frz.os Frz.int)) b5 hO
    have h0 := h0.sub (M' := d5) d6
    have h1 := h1.sub (M' := d5) d6
    have a0 := a0.sub (M' := d5) d6
    have a1 := a1.sub (M' := d5) d6
    have b1 := b1.sub (M' := d5) d6
    have hK := p7
    obtain ⟨y47, c9, hs⟩ := bind_some hs
    obtain ⟨p8, p9, q0, q1, v0, q2, b2, q3, f1⟩ := app_rs Rw59 c9 j7 a0 hO.inM
    have c1 := os_block j7
    refine xk_val (w' := q1) (b := true) (.slice p8 p9 q0) rfl  (y_append rfl rfl (q2 _)) rfl (fun h => nomatch h) ?_
    have h0 := h0.mt b2 hO c1
    have h1 := h1.mt b2 hO c1
    have a0 := a0.mt b2 hO c1
    have a1 := a1.mt b2 hO c1
    have b1 := b1.ma b2 hO c1 (fun _ e => (mem_l (e)))
    have hC := hC.st b2 hO c1
    have hO := hO.grow b2 q3 (os_nodup f1) f1.fpl
    refine x_one (i := 7) (by kernel_rfl) ?_
    obtain ⟨y52, d1, hs⟩ := bind_some hs
    have hO := hO.fr1
    have hO := hO.fr1
    obtain ⟨q4, q5, q6, q7, v1, q8, c2, q9, f2⟩ := app_os Rw59 d1 f1 b1 hO.inM (fun g hg hq => hO.apart g hq (mem_l hg))
    have d7 := os_block f1
    refine xk_val (w' := q7) (b := true) (.slice q4 q5 q6) rfl  (y_append rfl rfl (q8 _)) rfl (fun h => nomatch h) ?_
    have hO := hO.fr1
    have hO := hO.fr1
    have h0 := h0.mt c2 hO d7
    have h1 := h1.mt c2 hO d7
    have a0 := a0.mt c2 hO d7
    have a1 := a1.mt c2 hO d7
    have hC := hC.st c2 hO d7
    have hO := hO.eat c2 q9 (os_nodup f2) f2.fpl
    refine x_one (i := 11) (by kernel_rfl) ?_
    obtain ⟨y55, d3, hs⟩ := bind_some hs
    obtain ⟨h3, h4, h5, r0, v2, r1, c3, r2, h6⟩ := app_rs Rw59 d3 f2 a1 hO.inM
    have d8 := os_block f2
    refine xk_val (w' := r0) (b := true) (.slice h3 h4 h5) rfl  (y_append rfl rfl (r1 _)) rfl (fun h => nomatch h) ?_
    have h0 := h0.mt c3 hO d8
    have h1 := h1.mt c3 hO d8
    have a0 := a0.mt c3 hO d8
    have a1 := a1.mt c3 hO d8
    have hC := hC.st c3 hO d8
    have hO := hO.grow c3 r2 (os_nodup h6) h6.fpl
    refine x_p 12 (.slice h3 h4 h5) rfl (by kernel_rfl)  (fun _ => y_assign rfl) (fun h => nomatch h) ?_
    refine x_end (by kernel_rfl) ?_
    clear hS
    refine wp_ret ?_
    cases hs
    obtain ⟨f3, v3, f4, r3, hO, r4⟩ := frz_own (Frz.os (Frz.rs (Frz.rs Frz.int))) h6 hO
    have h0 := h0.sub (M' := f3) f4
    have h1 := h1.sub (M' := f3) f4
    have a0 := a0.sub (M' := f3) f4
    have a1 := a1.sub (M' := f3) f4
    have hK := hK.trans r3
    exact ⟨_, h3, h4, h5, fr_ovl 45 ⟨rfl, trivial⟩, hC, (Keeps.out hK r4)⟩
  ·skip
   obtain ⟨h7, h8, r5, j8, a9, j9⟩ := new_block g1 [(.slice pa1 pn1 pc1)] 49
   refine xk_val (w' := h7) (b := false) (.slice (some ⟨h8, 0, none⟩) 1 1) rfl  (y_bslice rfl (by rw [r5, j8]; kernel_rfl)) rfl (fun _ => hS.ext a9) ?_
   have h0 := h0.ext a9
   have h1 := h1.ext a9
   have a0 := a0.ext a9
   have a1 := a1.ext a9
   have hC := hC.ext a9
   have hO := hO.new1 a9 j8 j9.lt
   have a6 := os_of_box (r := (RT.rs (RT.rs (RT.int .i64)))) (M := M) (css := [[(.slice pa1 pn1 pc1)]]) (fps := [([] : List Nat)]) (xs := ([r_] : List (List (List Int)))) j9 ⟨(rs_unval h1), trivial⟩ (Nat.le_of_ble_eq_true rfl) (List.nodup_cons.2 ⟨(fun h => nomatch h), List.nodup_nil⟩)
   have a6 : (RT.os 49 (RT.rs (RT.rs (RT.int .i64)))).val M h7 (.slice (some ⟨h8, 0, none⟩) 1 1) [r_] [h8] := a6
   have hS := hS.ext a9
   refine x_one (i := 0) (by kernel_rfl) ?_
   obtain ⟨k0, h9, r6, k1, a7, k2⟩ := new_block h7 [] 49
   refine xk_val (w' := k0) (b := false) (.slice (some ⟨h9, 0, none⟩) 0 0) rfl  (y_bslice rfl (by rw [r6, k1]; kernel_rfl)) rfl (fun _ => hS.ext a7) ?_
   have h0 := h0.ext a7
   have h1 := h1.ext a7
   have a0 := a0.ext a7
   have a1 := a1.ext a7
   have a6 := a6.ext a7
   have hC := hC.ext a7
   have hO := hO.new1 a7 k1 k2.lt
   have i0 := os_of_box (r := (RT.os 25 (RT.os 3 (RT.int .i64)))) (M := M) (css := []) (fps := []) (xs := ([] : List (List (List Int)))) k2 trivial (Nat.zero_le _) (List.nodup_cons.2 ⟨(fun h => nomatch h), List.nodup_nil⟩)
   have i0 : (RT.os 49 (RT.os 25 (RT.os 3 (RT.int .i64)))).val M k0 (.slice (some ⟨h9, 0, none⟩) 0 0) [] [h9] := i0
   have hS := hS.ext a7
   refine x_one (i := 4) (by kernel_rfl) ?_
   obtain ⟨d9, v4, e0, r7, hO, k3⟩ := os_inner (Frz.os (Frz.os Frz.int)) i0 hO
   have h0 := h0.sub (M' := d9) e0
   have h1 := h1.sub (M' := d9) e0
   have a0 := a0.sub (M' := d9) e0
   have a1 := a1.sub (M' := d9) e0
   have a6 := a6.sub (M' := d9) e0
   have hK := r7
   obtain ⟨y47, c9, hs⟩ := bind_some hs
   obtain ⟨r8, r9, s0, s1, v5, s2, b3, s3, f5⟩ := app_rs Rw59 c9 k3 a0 hO.inM
   have c4 := os_block k3
   refine xk_val (w' := s1) (b := true) (.slice r8 r9 s0) rfl  (y_append rfl rfl (s2 _)) rfl (fun h => nomatch h) ?_
   have h0 := h0.mt b3 hO c4
   have h1 := h1.mt b3 hO c4
   have a0 := a0.mt b3 hO c4
   have a1 := a1.mt b3 hO c4
   have a6 := a6.ma b3 hO c4 (fun _ e => (mem_l (e)))
   have hC := hC.st b3 hO c4
   have hO := hO.grow b3 s3 (os_nodup f5) f5.fpl
   refine x_one (i := 7) (by kernel_rfl) ?_
   obtain ⟨y52, d1, hs⟩ := bind_some hs
   have hO := hO.fr1
   have hO := hO.fr1
   obtain ⟨s4, s5, s6, s7, v6, s8, c5, s9, f6⟩ := app_os Rw59 d1 f5 a6 hO.inM (fun g hg hq => hO.apart g hq (mem_l hg))
   have e1 := os_block f5
   refine xk_val (w' := s7) (b := true) (.slice s4 s5 s6) rfl  (y_append rfl rfl (s8 _)) rfl (fun h => nomatch h) ?_
   have hO := hO.fr1
   have hO := hO.fr1
   have h0 := h0.mt c5 hO e1
   have h1 := h1.mt c5 hO e1
   have a0 := a0.mt c5 hO e1
   have a1 := a1.mt c5 hO e1
   have hC := hC.st c5 hO e1
   have hO := hO.eat c5 s9 (os_nodup f6) f6.fpl
   refine x_one (i := 11) (by kernel_rfl) ?_
   obtain ⟨y55, d3, hs⟩ := bind_some hs
   obtain ⟨i1, i2, i3, t0, v7, t1, c6, t2, i4⟩ := app_rs Rw59 d3 f6 a1 hO.inM
   have e2 := os_block f6
   refine xk_val (w' := t0) (b := true) (.slice i1 i2 i3) rfl  (y_append rfl rfl (t1 _)) rfl (fun h => nomatch h) ?_
   have h0 := h0.mt c6 hO e2
   have h1 := h1.mt c6 hO e2
   have a0 := a0.mt c6 hO e2
   have a1 := a1.mt c6 hO e2
   have hC := hC.st c6 hO e2
   have hO := hO.grow c6 t2 (os_nodup i4) i4.fpl
   refine x_p 12 (.slice i1 i2 i3) rfl (by kernel_rfl)  (fun _ => y_assign rfl) (fun h => nomatch h) ?_
   refine x_end (by kernel_rfl) ?_
   clear hS
   refine wp_ret ?_
   cases hs
   obtain ⟨f7, v8, f8, t3, hO, t4⟩ := frz_own (Frz.os (Frz.rs (Frz.rs Frz.int))) i4 hO
   have h0 := h0.sub (M' := f7) f8
   have h1 := h1.sub (M' := f7) f8
   have a0 := a0.sub (M' := f7) f8
   have a1 := a1.sub (M' := f7) f8
   have hK := hK.trans t3
   exact ⟨_, i1, i2, i3, fr_ovl 45 ⟨rfl, trivial⟩, hC, (Keeps.out hK t4)⟩

theorem Bd69 : Bodied Try.prog 69 := bodied Try.func69 (by kernel_rfl) rfl

theorem Bd70 : Bodied Try.prog 70 := bodied Try.func70 (by kernel_rfl) rfl

theorem Bd72 : Bodied Try.prog 72 := bodied Try.func72 (by kernel_rfl) rfl

end Go.Proofs
