/- What functions of the program compute, as plain functions, and that a call gives just that. Conditions: those named in each theorem. -/
import Derived.Test.YtkbacbikbndakaaF0
set_option linter.unusedVariables false
namespace Go.Proofs
open Go.G Go.RowKit
set_option maxRecDepth 100000

def k_spec_l8Close (M : Nat → Prop) (w0 : World) (r : (List (List Int)) × Bool) (a : Act) (w : World) : Prop :=
  ∃ (σ : Nat → Value) (ra0 : Option Addr) (rn0 rc0 : Nat), a = fr 172 (ovl σ [(6, (.slice ra0 rn0 rc0)), (7, (.bool r.2))]) ∧ Chg [] w0 w ∧ (RT.rs (RT.rs (RT.int .i64))).val (Past M w0 w) w (.slice ra0 rn0 rc0) r.1 []
def s_spec_l8Close (a_ : Int × (List (Int × (List Int)))) (k : Int) (gens : List (List Int)) : Option ((List (List Int)) × Bool) :=
  (s_spec_l8Most (a_.1, a_.2)).bind fun r9 =>
  (forC (S := (List (List Int))) (R := (List (List Int)) × Bool) (fun k28 s26 =>
  (idx gens k28).bind fun x36 =>
  (s_spec_l1Own x36).bind fun r41 =>
  (app s26 ([r41])).bind fun y46 =>
  some (.nx y46)) 0 (gens.length : Int) ([])).bind fun o30 => after o30 (fun r_ => some r_) (fun s26 =>
  (forC (S := (List (List Int))) (R := (List (List Int)) × Bool) (fun k66 s64 =>
  (idx a_.2 k66).bind fun x74 =>
  (bif (x74.1 == 0) then (s_spec_l8Apply (a_.1, a_.2) k66 ([]) k).bind fun r81 =>
  (app s64 ([r81])).bind fun y86 =>
  some (.nx y86) else some (.nx s64))) 0 (a_.2.length : Int) s26).bind fun o68 => after o68 (fun r_ => some r_) (fun s64 =>
  (iter (S := (List (List Int)) × (List (List Int)) × Int) (R := (List (List Int)) × Bool) (fun s249 =>
  (bif (decide (s249.2.2 < (s64.length : Int))) then (idx s64 s249.2.2).bind fun x266 =>
  (s_spec_l8Find s249.1 x266).bind fun r271 =>
  (bif (!r271.2) then (idx s64 s249.2.2).bind fun x273 =>
  (s_spec_l8Put s249.1 x273).bind fun r278 =>
  (idx s64 s249.2.2).bind fun x280 =>
  (app s249.2.1 ([x280])).bind fun y287 =>
  some (.nx (r278, y287, w64 (s249.2.2 + 1))) else some (.nx (s249.1, s249.2.1, w64 (s249.2.2 + 1)))) else some (.br (s249.1, s249.2.1, s249.2.2)))) FU ([], [], 0)).bind fun o253 => after o253 (fun r_ => some r_) (fun s249 =>
  (iter (S := (List (List Int)) × (List (List Int)) × Int) (R := (List (List Int)) × Bool) (fun s2566 =>
  (bif ((decide (s2566.2.2 < (s2566.2.1.length : Int))) && (decide ((s2566.2.1.length : Int) ≤ r9))) then (forC (S := (List (List Int)) × (List (List Int))) (R := (List (List Int)) × Bool) (fun k3334 s3332 =>
  (idx a_.2 k3334).bind fun x3359 =>
  (idx a_.2 k3334).bind fun x3362 =>
  (mks x3359.1 (0 : Int)).bind fun y3366 =>
  (iter (S := (List (List Int)) × (List (List Int)) × (List Int) × Bool) (R := (List (List Int)) × Bool) (fun s3591 =>
  (bif (s3591.2.2.2 && (decide ((s3591.2.1.length : Int) ≤ r9))) then (s_spec_l1Has s3591.2.2.1 s2566.2.2).bind fun r3617 =>
  (bif r3617 then (s_spec_l8Choose__sh s3591.2.1 s3591.2.2.1).bind fun r3695 =>
  (s_spec_l8Apply (a_.1, a_.2) k3334 r3695 k).bind fun r3698 =>
  (s_spec_l8Find s3591.1 r3698).bind fun r3701 =>
  (bif (!r3701.2) then (s_spec_l8Put s3591.1 r3698).bind fun r3705 =>
  (app s3591.2.1 ([r3698])).bind fun y3710 =>
  some (r3705, y3710, s3591.2.2.1) else some (s3591.1, s3591.2.1, s3591.2.2.1)) else some (s3591.1, s3591.2.1, s3591.2.2.1)).bind fun s3674 =>
  (s_spec_l8Next s3674.2.2 (w64 (s2566.2.2 + 1))).bind fun r3714 =>
  some (.nx (s3674.1, s3674.2.1, r3714.1, r3714.2)) else some (.br (s3591.1, s3591.2.1, s3591.2.2.1, s3591.2.2.2)))) FU (s3332.1, s3332.2, y3366, (decide (0 < x3362.1)))).bind fun o3595 => after o3595 (fun r_ => some (.rt r_)) (fun s3591 =>
  some (.nx (s3591.1, s3591.2.1)))) 0 (a_.2.length : Int) (s2566.1, s2566.2.1)).bind fun o3336 => after o3336 (fun r_ => some (.rt r_)) (fun s3332 =>
  some (.nx (s3332.1, s3332.2, w64 (s2566.2.2 + 1)))) else some (.br (s2566.1, s2566.2.1, s2566.2.2)))) FU (s249.1, s249.2.1, 0)).bind fun o2570 => after o2570 (fun r_ => some r_) (fun s2566 =>
  some (s2566.1, (decide ((s2566.1.length : Int) ≤ r9)))))))
set_option maxHeartbeats 4000000 in
theorem c_spec_l8Close {M : Nat → Prop} {w : World} {pa0 : Option Addr} {pn0 pc0 : Nat} {pa1 : Option Addr} {pn1 pc1 : Nat} (a_ : Int × (List (Int × (List Int)))) (k : Int) (gens : List (List Int)) (h0 : (RT.rs (RT.pr ri (RT.rs ri))).val M w (.slice pa0 pn0 pc0) a_.2 ([])) (h1 : (RT.rs (RT.rs ri)).val M w (.slice pa1 pn1 pc1) gens ([])) (hM : ∀ g, w.heap.size ≤ g → M g) {r : (List (List Int)) × Bool} (hs : s_spec_l8Close a_ k gens = some r) :
    Gives Try.prog 37 [(.agg #[(.int .i64 a_.1), (.slice pa0 pn0 pc0)]), (.int .i64 k), (.slice pa1 pn1 pc1)] w (fun v w' => ∃ (ra0 : Option Addr) (rn0 rc0 : Nat), v = (.tuple #[(.slice ra0 rn0 rc0), (.bool r.2)]) ∧ Chg [] w w' ∧ (RT.rs (RT.rs ri)).val (Past M w w') w' (.slice ra0 rn0 rc0) r.1 []) := by
 refine calls_fr Try.func37 rfl Try.ntmps37 (Nat.le_of_ble_eq_true rfl) ?_
 have hO := Own.start (N := Nw w []) hM Nw.fut
 have hC := Chg.refl [] w
 unfold s_spec_l8Close at hs
 refine wp_mono (Q := KPost (k_spec_l8Close M w r)) ?_ (fun e a k5 h => ?_)
 rotate_left
 ·cases e
  case ret =>
   obtain ⟨σ, ra0, rn0, rc0, rfl, hrest⟩ := h
   exact ret2x Try.results37 (res_tmp rfl) (res_tmp rfl) ⟨ra0, rn0, rc0, rfl, hrest⟩
  all_goals exact (h : False).elim
 refine c_sr ?_
 obtain ⟨z4, a1, F0, z5, o6, a0⟩ := new_block w [(.int .i64 a_.1), (.slice pa0 pn0 pc0)] 35
 refine pl_val (w' := z4) (pq a1 0) (y_box rfl (by rw [F0, z5]; kernel_rfl)) ?_
 have h0 := h0.ext o6
 have h1 := h1.ext o6
 have hC := hC.ext o6
 have hO := hO.new1 o6 z5 a0.lt
 refine ax rfl (ab rfl (c_nil (c_sr ?_)))
 obtain ⟨t1, a6, F1, z6, n4, z7⟩ := new_block z4 [] 43
 refine pl_val (w' := t1) (.slice (some ⟨a6, 0, none⟩) 0 0) (y_bslice rfl (by rw [F1, z6]; kernel_rfl)) ?_
 have h0 := h0.ext n4
 have h1 := h1.ext n4
 have a0 := a0.cn n4
 have hC := hC.ext n4
 have hO := hO.new1 n4 z6 z7.lt
 have a2 := os_of_box (r := (RT.os 3 ri)) (M := M) (css := []) (fps := []) (xs := ([] : List (List Int))) z7 trivial (Nat.zero_le _) (List.nodup_cons.2 ⟨(fun h => nomatch h), List.nodup_nil⟩)
 have a2 : (RT.os 43 (RT.os 3 ri)).val M t1 (.slice (some ⟨a6, 0, none⟩) 0 0) [] [a6] := a2
 obtain ⟨z8, a7, F2, z9, k6, A0⟩ := new_block t1 [] 43
 refine pl_val (w' := z8) (.slice (some ⟨a7, 0, none⟩) 0 0) (y_bslice rfl (by rw [F2, z9]; kernel_rfl)) ?_
 have h0 := h0.ext k6
 have h1 := h1.ext k6
 have a0 := a0.cn k6
 have a2 := a2.ext k6
 have hC := hC.ext k6
 have hO := hO.new1 k6 z9 A0.lt
 have a3 := os_of_box (r := (RT.os 3 ri)) (M := M) (css := []) (fps := []) (xs := ([] : List (List Int))) A0 trivial (Nat.zero_le _) (List.nodup_cons.2 ⟨(fun h => nomatch h), List.nodup_nil⟩)
 have a3 : (RT.os 43 (RT.os 3 ri)).val M z8 (.slice (some ⟨a7, 0, none⟩) 0 0) [] [a7] := a3
 refine pl_val (.agg #[(.int .i64 a_.1), (.slice pa0 pn0 pc0)]) (y_load rfl ((box_load Ag35 Sz35 a0 [] [(.int .i64 a_.1), (.slice pa0 pn0 pc0)] [] rfl rfl (fun h => nomatch h)) _ (Chg.refl _ _))) ?_
 obtain ⟨r9, F3, hs⟩ := bind_some hs
 refine pl_call Bd69 rfl (c_spec_l8Most (M := M) (a_.1, a_.2) h0 hO.fut F3) ?_
 rintro _ F4 ⟨rfl, h6⟩
 have h0 := h0.ext h6
 have h1 := h1.ext h6
 have a0 := a0.cn h6
 have a2 := a2.ext h6
 have a3 := a3.ext h6
 have hC := hC.ext h6
 have hO := hO.ext h6
 refine ax rfl (ax rfl (ai rfl (c_nil (c_sr ?_))))
 obtain ⟨A1, k7, F5, A2, h7, A3⟩ := new_block F4 [] 43
 refine pl_val (w' := A1) (.slice (some ⟨k7, 0, none⟩) 0 0) (y_bslice rfl (by rw [F5, A2]; kernel_rfl)) ?_
 have h0 := h0.ext h7
 have h1 := h1.ext h7
 have a0 := a0.cn h7
 have a2 := a2.ext h7
 have a3 := a3.ext h7
 have hC := hC.ext h7
 have hO := hO.new1 h7 A2 A3.lt
 have t2 := os_of_box (r := (RT.os 3 ri)) (M := M) (css := []) (fps := []) (xs := ([] : List (List Int))) A3 trivial (Nat.zero_le _) (List.nodup_cons.2 ⟨(fun h => nomatch h), List.nodup_nil⟩)
 have t2 : (RT.os 43 (RT.os 3 ri)).val M A1 (.slice (some ⟨k7, 0, none⟩) 0 0) [] [k7] := t2
 refine ax rfl (c_nil (c_seq (c_sr (ai rfl (c_nil ?_)))))
 obtain ⟨o30, F6, hs⟩ := bind_some hs
 refine wp_block (wp_forC (id := 0) (gens.length : Int) (I := fun k28 s26 a b0 => ∃ (σ : Nat → Value) (k8 : Option Addr) (k9 : Nat) (l0 : Nat) (h8 : List Nat), a = fr 172 (ovl σ [(1, (.int .i64 k)), (2, (.slice pa1 pn1 pc1)), (3, (pq a1 0)), (8, (.slice (some ⟨a6, 0, none⟩) 0 0)), (9, (.slice (some ⟨a7, 0, none⟩) 0 0)), (10, (.int .i64 r9)), (11, (.slice k8 k9 l0)), (12, (.int .i64 k28))]) ∧ Chg [] w b0 ∧ Own (Nw w []) M b0 (h8 ++ (([a7]) ++ (([a6]) ++ (([a1]) ++ [])))) ∧ (RT.rs (RT.pr ri (RT.rs ri))).val M b0 (.slice pa0 pn0 pc0) a_.2 ([]) ∧ (RT.rs (RT.rs ri)).val M b0 (.slice pa1 pn1 pc1) gens ([]) ∧ BoxV b0 a1 35 [(.int .i64 a_.1), (.slice pa0 pn0 pc0)] ∧ (RT.os 43 (RT.os 3 ri)).val M b0 (.slice (some ⟨a6, 0, none⟩) 0 0) ([]) ([a6]) ∧ (RT.os 43 (RT.os 3 ri)).val M b0 (.slice (some ⟨a7, 0, none⟩) 0 0) ([]) ([a7]) ∧ (RT.os 43 (RT.os 3 ri)).val M b0 (.slice k8 k9 l0) s26 h8) (J := fun s26 a b0 => ∃ (σ : Nat → Value) (o7 : Option Addr) (o8 : Nat) (o9 : Nat) (p0 : List Nat), a = fr 172 (ovl σ [(1, (.int .i64 k)), (3, (pq a1 0)), (8, (.slice (some ⟨a6, 0, none⟩) 0 0)), (9, (.slice (some ⟨a7, 0, none⟩) 0 0)), (10, (.int .i64 r9)), (11, (.slice o7 o8 o9))]) ∧ Chg [] w b0 ∧ Own (Nw w []) M b0 (p0 ++ (([a7]) ++ (([a6]) ++ (([a1]) ++ [])))) ∧ (RT.rs (RT.pr ri (RT.rs ri))).val M b0 (.slice pa0 pn0 pc0) a_.2 ([]) ∧ (RT.rs (RT.rs ri)).val M b0 (.slice pa1 pn1 pc1) gens ([]) ∧ BoxV b0 a1 35 [(.int .i64 a_.1), (.slice pa0 pn0 pc0)] ∧ (RT.os 43 (RT.os 3 ri)).val M b0 (.slice (some ⟨a6, 0, none⟩) 0 0) ([]) ([a6]) ∧ (RT.os 43 (RT.os 3 ri)).val M b0 (.slice (some ⟨a7, 0, none⟩) 0 0) ([]) ([a7]) ∧ (RT.os 43 (RT.os 3 ri)).val M b0 (.slice o7 o8 o9) s26 p0) (K := (k_spec_l8Close M w)) ?_ ?_ 0 ([]) o30 _ _ ?_ F6 ?_)
 ·rintro k28 s26 a b0 ⟨σ, k8, k9, l0, h8, rfl, hC, hO, h0, h1, a0, a2, a3, f8⟩ hlt
  refine c_seq (c_sr (mi rfl (ms rfl (pl_val _ (y_len' Sl25 (rs_len h1) rfl) (pl_val _ (y_lss rfl rfl) (c_nil (c_condF (cb (decide_eq_false hlt)) (wp_exit ?_))))))))
  have hO := hO.fr3
  have hO := hO.fr3
  have hO := hO.fr3
  have hO := hO.fr3
  exact ⟨rfl, _, k8, k9, l0, h8, fr_ovl 172 ⟨rfl, rfl, rfl, rfl, rfl, rfl, trivial⟩, hC, hO, h0, h1, a0, a2, a3, f8⟩
 ·rintro k28 s26 o30 a b0 ⟨σ, k8, k9, l0, h8, rfl, hC, hO, h0, h1, a0, a2, a3, f8⟩ hlt hw hs
  refine c_seq (c_sr (mi rfl (ms rfl (pl_val _ (y_len' Sl25 (rs_len h1) rfl) (pl_val _ (y_lss rfl rfl) (c_nil (c_condT (cb (decide_eq_true hlt)) (wp_skip (c_seq (wp_block (c_region (ms rfl (ms rfl (mi rfl ?_))))))))))))))
  obtain ⟨x36, F7, hs⟩ := bind_some hs
  obtain ⟨F8, F9, G0, n5⟩ := rs_idx Sl25 Sz43 h1 F7
  refine pl_val _ (G0 _ _ _ _ _ _ _ _ _ rfl rfl) ?_
  obtain ⟨Q6, G1, f9⟩ := at_load Ag43 Sz43 (fun _ => rfl) n5
  obtain ⟨G2, G3, G4, rfl⟩ := rs_sl f9
  refine pl_val (.slice G2 G3 G4) (y_load rfl (G1 _ (Chg.refl _ _))) ?_
  obtain ⟨r41, G5, hs⟩ := bind_some hs
  refine pl_call Bd54 rfl (c_spec_l1Own (M := M) x36 f9 hO.fut G5) ?_
  rintro _ G6 ⟨A4, A5, A6, p1, rfl, c7, t3, G7⟩
  have h0 := h0.ext c7
  have h1 := h1.ext c7
  have a0 := a0.cn c7
  have a2 := a2.ext c7
  have a3 := a3.ext c7
  have f8 := f8.ext c7
  have f9 := f9.ext c7
  have n5 := at_ext n5 c7
  have hC := hC.ext c7
  have hO := Own.join0 hO c7 G7
  have hO := hO.perm (R := p1 ++ (h8 ++ (([a7]) ++ (([a6]) ++ (([a1]) ++ ([])))))) (by simp)
  obtain ⟨A7, p2, G8, A8, c4, A9⟩ := new_block G6 [(.slice A4 A5 A6)] 43
  refine pl_val (w' := A7) (.slice (some ⟨p2, 0, none⟩) 1 1) (y_bslice rfl (by rw [G8, A8]; kernel_rfl)) ?_
  have h0 := h0.ext c4
  have h1 := h1.ext c4
  have a0 := a0.cn c4
  have a2 := a2.ext c4
  have a3 := a3.ext c4
  have f8 := f8.ext c4
  have f9 := f9.ext c4
  have t3 := t3.ext c4
  have n5 := at_ext n5 c4
  have hC := hC.ext c4
  have hO := hO.new1 c4 A8 A9.lt
  have hO := hO.perm (R := (p2 :: ((p1) ++ ([]))) ++ (h8 ++ (([a7]) ++ (([a6]) ++ (([a1]) ++ ([])))))) (by simp)
  have G9 := hO.nd
  have t4 := os_of_box (r := (RT.os 3 ri)) (M := M) (css := [[(.slice A4 A5 A6)]]) (fps := [(p1 : List Nat)]) (xs := ([r41] : List (List Int))) A9 ⟨(os_unval t3), trivial⟩ (Nat.le_of_ble_eq_true rfl) G9
  have t4 : (RT.os 43 (RT.os 3 ri)).val M A7 (.slice (some ⟨p2, 0, none⟩) 1 1) [r41] (p2 :: ((p1) ++ ([]))) := t4
  obtain ⟨y46, H0, hs⟩ := bind_some hs
  have hO := hO.fr1
  obtain ⟨t5, t6, t7, H1, H2, H3, g0, H4, t8⟩ := app_os Rw25 H0 f8 t4 hO.inM (fun g hg hq => hO.apart g hq (mem_l hg))
  have h9 := os_block f8
  refine pl_val (w' := H1) (.slice t5 t6 t7) (y_append rfl rfl (H3 _)) ?_
  have hO := hO.fr1
  have hO := hO.fr1
  have h0 := h0.mt g0 hO h9
  have h1 := h1.mt g0 hO h9
  have a0 := a0.ap g0 hO h9 (mem_r (mem_r (mem_r (mem_l (List.mem_singleton.2 rfl)))))
  have a2 := a2.ma g0 hO h9 (fun _ e => (mem_r (mem_r (mem_l (e)))))
  have a3 := a3.ma g0 hO h9 (fun _ e => (mem_r (mem_l (e))))
  have f9 := f9.mt g0 hO h9
  have hC := hC.st g0 hO h9
  have hO := hO.eat g0 H4 (os_nodup t8) t8.fpl
  refine ax rfl (c_nil (c_region (mi rfl (pl_val (.int .i64 (w64 (k28 + 1))) (y_add rfl rfl) (ai rfl (c_nil ?_))))))
  cases hs
  have hO := hO.fr3
  have hO := hO.fr3
  have hO := hO.fr3
  have hO := hO.fr3
  exact ⟨_, t5, t6, t7, H2, fr_ovl 172 ⟨rfl, rfl, rfl, rfl, rfl, rfl, rfl, congrArg (Value.int .i64) hw, trivial⟩, hC, hO, h0, h1, a0, a2, a3, t8⟩
 ·skip
  have hO := hO.fr3
  have hO := hO.fr3
  have hO := hO.fr3
  have hO := hO.fr3
  exact ⟨_, (some ⟨k7, 0, none⟩), 0, 0, ([k7]), fr_ovl 172 ⟨rfl, rfl, rfl, rfl, rfl, rfl, rfl, rfl, trivial⟩, hC, hO, h0, h1, a0, a2, a3, t2⟩
 cases o30 with
 | nx _ => exact True.intro
 | rt r_ =>
  have hs := after_rt hs
  intro b8 k5 hK
  cases hs
  exact hK
 | br s26 =>
  have hs := after_br hs
  rintro b8 b0 ⟨σ, o7, o8, o9, p0, rfl, hC, hO, h0, h1, a0, a2, a3, H5⟩
  refine c_seq (c_sr (ai rfl (c_nil ?_)))
  obtain ⟨o68, H6, hs⟩ := bind_some hs
  refine wp_block (wp_forC (id := 2) (a_.2.length : Int) (I := fun k66 s64 a b2 => ∃ (σ : Nat → Value) (i0 : Option Addr) (i1 : Nat) (i2 : Nat) (g1 : List Nat), a = fr 172 (ovl σ [(1, (.int .i64 k)), (3, (pq a1 0)), (8, (.slice (some ⟨a6, 0, none⟩) 0 0)), (9, (.slice (some ⟨a7, 0, none⟩) 0 0)), (10, (.int .i64 r9)), (11, (.slice i0 i1 i2)), (13, (.int .i64 k66))]) ∧ Chg [] w b2 ∧ Own (Nw w []) M b2 (g1 ++ (([a7]) ++ (([a6]) ++ (([a1]) ++ [])))) ∧ (RT.rs (RT.pr ri (RT.rs ri))).val M b2 (.slice pa0 pn0 pc0) a_.2 ([]) ∧ BoxV b2 a1 35 [(.int .i64 a_.1), (.slice pa0 pn0 pc0)] ∧ (RT.os 43 (RT.os 3 ri)).val M b2 (.slice (some ⟨a6, 0, none⟩) 0 0) ([]) ([a6]) ∧ (RT.os 43 (RT.os 3 ri)).val M b2 (.slice (some ⟨a7, 0, none⟩) 0 0) ([]) ([a7]) ∧ (RT.os 43 (RT.os 3 ri)).val M b2 (.slice i0 i1 i2) s64 g1) (J := fun s64 a b2 => ∃ (σ : Nat → Value) (c8 : Option Addr) (c9 : Nat) (d0 : Nat) (t9 : List Nat), a = fr 172 (ovl σ [(1, (.int .i64 k)), (3, (pq a1 0)), (8, (.slice (some ⟨a6, 0, none⟩) 0 0)), (9, (.slice (some ⟨a7, 0, none⟩) 0 0)), (10, (.int .i64 r9)), (11, (.slice c8 c9 d0))]) ∧ Chg [] w b2 ∧ Own (Nw w []) M b2 (t9 ++ (([a7]) ++ (([a6]) ++ (([a1]) ++ [])))) ∧ (RT.rs (RT.pr ri (RT.rs ri))).val M b2 (.slice pa0 pn0 pc0) a_.2 ([]) ∧ BoxV b2 a1 35 [(.int .i64 a_.1), (.slice pa0 pn0 pc0)] ∧ (RT.os 43 (RT.os 3 ri)).val M b2 (.slice (some ⟨a6, 0, none⟩) 0 0) ([]) ([a6]) ∧ (RT.os 43 (RT.os 3 ri)).val M b2 (.slice (some ⟨a7, 0, none⟩) 0 0) ([]) ([a7]) ∧ (RT.os 43 (RT.os 3 ri)).val M b2 (.slice c8 c9 d0) s64 t9) (K := (k_spec_l8Close M w)) ?_ ?_ 0 s26 o68 _ _ ?_ H6 ?_)
  ·rintro k66 s64 a b2 ⟨σ, i0, i1, i2, g1, rfl, hC, hO, h0, a0, a2, a3, c5⟩ hlt
   refine c_seq (c_sr (mi rfl (pl_val (pq a1 1) (y_faddr rfl Fa35x1) (pl_val (.slice pa0 pn0 pc0) (y_load rfl ((box_load Ag33 Sz33 a0 [(.int .i64 a_.1)] [(.slice pa0 pn0 pc0)] [] rfl rfl (fun _ => rfl)) _ (Chg.refl _ _))) (pl_val _ (y_len' Sl33 (rs_len h0) rfl) (pl_val _ (y_lss rfl rfl) (c_nil (c_condF (cb (decide_eq_false hlt)) (wp_exit ?_)))))))))
   have hO := hO.fr3
   have hO := hO.fr3
   have hO := hO.fr3
   have hO := hO.fr3
   exact ⟨rfl, _, i0, i1, i2, g1, fr_ovl 172 ⟨rfl, rfl, rfl, rfl, rfl, rfl, trivial⟩, hC, hO, h0, a0, a2, a3, c5⟩
  ·rintro k66 s64 o68 a b2 ⟨σ, i0, i1, i2, g1, rfl, hC, hO, h0, a0, a2, a3, c5⟩ hlt hw hs
   refine c_seq (c_sr (mi rfl (pl_val (pq a1 1) (y_faddr rfl Fa35x1) (pl_val (.slice pa0 pn0 pc0) (y_load rfl ((box_load Ag33 Sz33 a0 [(.int .i64 a_.1)] [(.slice pa0 pn0 pc0)] [] rfl rfl (fun _ => rfl)) _ (Chg.refl _ _))) (pl_val _ (y_len' Sl33 (rs_len h0) rfl) (pl_val _ (y_lss rfl rfl) (c_nil (c_condT (cb (decide_eq_true hlt)) (wp_skip (c_seq (wp_block (c_sr (pl_val (pq a1 1) (y_faddr rfl Fa35x1) (pl_val (.slice pa0 pn0 pc0) (y_load rfl ((box_load Ag33 Sz33 a0 [(.int .i64 a_.1)] [(.slice pa0 pn0 pc0)] [] rfl rfl (fun _ => rfl)) _ (Chg.refl _ _))) (mi rfl ?_)))))))))))))))
   obtain ⟨x74, H7, hs⟩ := bind_some hs
   obtain ⟨B0, B1, H8, H9⟩ := rs_idx Sl33 Sz89 h0 H7
   refine pl_val _ (H8 _ _ _ _ _ _ _ _ _ rfl rfl) ?_
   obtain ⟨I0, _⟩ := pr_at H9
   refine pl_val (.pointer (some ⟨B0, B1 + 0, none⟩)) (y_faddr rfl Fa89x0) (pl_val (.int .i64 x74.1) (y_load rfl ((at_load_int Ag3 Sz3 I0) _ (Chg.refl _ _))) (pl_val (.bool (x74.1 == 0)) (y_eql rfl rfl) (c_nil ?_)))
   rcases bif_some hs with ⟨u0, hs⟩ | ⟨u0, hs⟩
   ·refine c_condT (cb u0) (c_region (ms rfl (pl_val (.agg #[(.int .i64 a_.1), (.slice pa0 pn0 pc0)]) (y_load rfl ((box_load Ag35 Sz35 a0 [] [(.int .i64 a_.1), (.slice pa0 pn0 pc0)] [] rfl rfl (fun h => nomatch h)) _ (Chg.refl _ _))) (mi rfl ?_))))
    obtain ⟨B2, l1, I1, B3, i3, B4⟩ := new_block b2 [] 43
    refine pl_val (w' := B2) (.slice (some ⟨l1, 0, none⟩) 0 0) (y_bslice rfl (by rw [I1, B3]; kernel_rfl)) ?_
    have h0 := h0.ext i3
    have a0 := a0.cn i3
    have a2 := a2.ext i3
    have a3 := a3.ext i3
    have c5 := c5.ext i3
    have hC := hC.ext i3
    have hO := hO.new1 i3 B3 B4.lt
    have e4 := os_of_box (r := (RT.os 3 ri)) (M := M) (css := []) (fps := []) (xs := ([] : List (List Int))) B4 trivial (Nat.zero_le _) (List.nodup_cons.2 ⟨(fun h => nomatch h), List.nodup_nil⟩)
    have e4 : (RT.os 43 (RT.os 3 ri)).val M B2 (.slice (some ⟨l1, 0, none⟩) 0 0) [] [l1] := e4
    refine mi rfl ?_
    obtain ⟨r81, I2, hs⟩ := bind_some hs
    refine pl_call Bd70 rfl (c_spec_l8Apply (M := (Less M ([l1]))) (a_.1, a_.2) k66 ([]) k (h0.sub Less.sub) (((Frz.os (Frz.os Frz.int))).val e4 Less.sub Less.not) hO.less.fut I2) ?_
    rintro _ I3 ⟨B5, B6, B7, p3, rfl, g2, n6, I4⟩
    have h0 := h0.ext g2
    have a0 := a0.cn g2
    have a2 := a2.ext g2
    have a3 := a3.ext g2
    have c5 := c5.ext g2
    have e4 := e4.ext g2
    have hC := hC.ext g2
    have hO := Own.join0 hO g2 I4
    have hO := hO.perm (R := p3 ++ (([l1]) ++ (g1 ++ (([a7]) ++ (([a6]) ++ (([a1]) ++ ([]))))))) (by simp)
    have n6 := n6.free (M' := M) (Free.os Free.int)
    obtain ⟨B8, p4, I5, B9, e5, C0⟩ := new_block I3 [(.slice B5 B6 B7)] 43
    refine pl_val (w' := B8) (.slice (some ⟨p4, 0, none⟩) 1 1) (y_bslice rfl (by rw [I5, B9]; kernel_rfl)) ?_
    have h0 := h0.ext e5
    have a0 := a0.cn e5
    have a2 := a2.ext e5
    have a3 := a3.ext e5
    have c5 := c5.ext e5
    have e4 := e4.ext e5
    have n6 := n6.ext e5
    have hC := hC.ext e5
    have hO := hO.new1 e5 B9 C0.lt
    have hO := hO.perm (R := (p4 :: ((p3) ++ ([]))) ++ (([l1]) ++ (g1 ++ (([a7]) ++ (([a6]) ++ (([a1]) ++ ([]))))))) (by simp)
    have I6 := hO.nd
    have u1 := os_of_box (r := (RT.os 3 ri)) (M := M) (css := [[(.slice B5 B6 B7)]]) (fps := [(p3 : List Nat)]) (xs := ([r81] : List (List Int))) C0 ⟨(os_unval n6), trivial⟩ (Nat.le_of_ble_eq_true rfl) I6
    have u1 : (RT.os 43 (RT.os 3 ri)).val M B8 (.slice (some ⟨p4, 0, none⟩) 1 1) [r81] (p4 :: ((p3) ++ ([]))) := u1
    obtain ⟨y86, I7, hs⟩ := bind_some hs
    have hO := hO.fr2
    obtain ⟨u2, u3, u4, I8, I9, J0, i4, J1, u5⟩ := app_os Rw25 I7 c5 u1 hO.inM (fun g hg hq => hO.apart g hq (mem_l hg))
    have l2 := os_block c5
    refine pl_val (w' := I8) (.slice u2 u3 u4) (y_append rfl rfl (J0 _)) ?_
    have hO := hO.fr1
    have hO := hO.fr1
    have h0 := h0.mt i4 hO l2
    have a0 := a0.ap i4 hO l2 (mem_r (mem_r (mem_r (mem_r (mem_l (List.mem_singleton.2 rfl))))))
    have a2 := a2.ma i4 hO l2 (fun _ e => (mem_r (mem_r (mem_r (mem_l (e))))))
    have a3 := a3.ma i4 hO l2 (fun _ e => (mem_r (mem_r (mem_l (e)))))
    have e4 := e4.ma i4 hO l2 (fun _ e => (mem_r (mem_l (e))))
    have hC := hC.st i4 hO l2
    have hO := hO.eat i4 J1 (os_nodup u5) u5.fpl
    refine ax rfl (c_nil (c_region (mi rfl (pl_val (.int .i64 (w64 (k66 + 1))) (y_add rfl rfl) (ai rfl (c_nil ?_))))))
    cases hs
    have hO := hO.fr1
    have hO := hO.drop
    have hO := hO.fr3
    have hO := hO.fr3
    have hO := hO.fr3
    have hO := hO.fr3
    exact ⟨_, u2, u3, u4, I9, fr_ovl 172 ⟨rfl, rfl, rfl, rfl, rfl, rfl, congrArg (Value.int .i64) hw, trivial⟩, hC, hO, h0, a0, a2, a3, u5⟩
   refine c_condF (cb u0) (wp_skip (c_region (mi rfl (pl_val (.int .i64 (w64 (k66 + 1))) (y_add rfl rfl) (ai rfl (c_nil ?_))))))
   cases hs
   have hO := hO.fr3
   have hO := hO.fr3
   have hO := hO.fr3
   have hO := hO.fr3
   exact ⟨_, i0, i1, i2, g1, fr_ovl 172 ⟨rfl, rfl, rfl, rfl, rfl, rfl, congrArg (Value.int .i64) hw, trivial⟩, hC, hO, h0, a0, a2, a3, c5⟩
  ·skip
   have hO := hO.fr3
   have hO := hO.fr3
   have hO := hO.fr3
   have hO := hO.fr3
   exact ⟨_, o7, o8, o9, p0, fr_ovl 172 ⟨rfl, rfl, rfl, rfl, rfl, rfl, rfl, trivial⟩, hC, hO, h0, a0, a2, a3, H5⟩
  cases o68 with
  | nx _ => exact True.intro
  | rt r_ =>
   have hs := after_rt hs
   intro b8 k5 hK
   cases hs
   exact hK
  | br s64 =>
   have hs := after_br hs
   rintro b8 b2 ⟨σ, c8, c9, d0, t9, rfl, hC, hO, h0, a0, a2, a3, n7⟩
   refine c_seq (c_sr (ai rfl (c_nil ?_)))
   have hO := hO.fr2
   obtain ⟨u6, Q7, u7, J2, hO, n8⟩ := frz_own (Frz.os (Frz.os Frz.int)) a2 hO
   have h0 := h0.sub (M' := u6) u7
   have a3 := a3.sub (M' := u6) u7
   have n7 := n7.sub (M' := u6) u7
   have hK := J2
   have hO := hO.fr1
   obtain ⟨u9, J3, v0, J4, hO, v1⟩ := os_inner (Frz.os Frz.int) a3 hO
   have h0 := h0.sub (M' := u9) v0
   have n8 := n8.sub (M' := u9) v0
   have n7 := n7.sub (M' := u9) v0
   have hK := hK.trans J4
   have hO := hO.fr1
   obtain ⟨p5, Q8, v2, J5, hO, b1⟩ := frz_own (Frz.os (Frz.os Frz.int)) n7 hO
   have h0 := h0.sub (M' := p5) v2
   have n8 := n8.sub (M' := p5) v2
   have v1 := v1.sub (M' := p5) v2
   have hK := hK.trans J5
   obtain ⟨o253, J6, hs⟩ := bind_some hs
   refine wp_block (wp_iter (id := 4) (I := fun s249 a b5 => ∃ (σ : Nat → Value) (a8 : Nat → Prop) (i5 : Option Addr) (i6 : Nat) (i7 : Nat) (l3 : Option Addr) (l4 : Nat) (l5 : Nat) (n9 : List Nat), a = fr 172 (ovl σ [(1, (.int .i64 k)), (3, (pq a1 0)), (8, (.slice i5 i6 i7)), (9, (.slice l3 l4 l5)), (10, (.int .i64 r9)), (11, (.slice c8 c9 d0)), (14, (.int .i64 s249.2.2))]) ∧ Chg [] w b5 ∧ Own (Nw w []) a8 b5 (n9 ++ (([a1]) ++ [])) ∧ Keeps w M a8 ∧ (RT.rs (RT.pr ri (RT.rs ri))).val a8 b5 (.slice pa0 pn0 pc0) a_.2 ([]) ∧ BoxV b5 a1 35 [(.int .i64 a_.1), (.slice pa0 pn0 pc0)] ∧ (RT.rs (RT.rs ri)).val a8 b5 (.slice c8 c9 d0) s64 ([]) ∧ (RT.rs (RT.rs ri)).val a8 b5 (.slice i5 i6 i7) s249.1 ([]) ∧ (RT.os 43 (RT.rs ri)).val a8 b5 (.slice l3 l4 l5) s249.2.1 n9) (J := fun s249 a b5 => ∃ (σ : Nat → Value) (g3 : Nat → Prop) (p6 : Option Addr) (p7 : Nat) (p8 : Nat) (p9 : Option Addr) (q0 : Nat) (q1 : Nat) (q2 : List Nat), a = fr 172 (ovl σ [(1, (.int .i64 k)), (3, (pq a1 0)), (8, (.slice p6 p7 p8)), (9, (.slice p9 q0 q1)), (10, (.int .i64 r9))]) ∧ Chg [] w b5 ∧ Own (Nw w []) g3 b5 (q2 ++ (([a1]) ++ [])) ∧ Keeps w M g3 ∧ (RT.rs (RT.pr ri (RT.rs ri))).val g3 b5 (.slice pa0 pn0 pc0) a_.2 ([]) ∧ BoxV b5 a1 35 [(.int .i64 a_.1), (.slice pa0 pn0 pc0)] ∧ (RT.rs (RT.rs ri)).val g3 b5 (.slice c8 c9 d0) s64 ([]) ∧ (RT.rs (RT.rs ri)).val g3 b5 (.slice p6 p7 p8) s249.1 ([]) ∧ (RT.os 43 (RT.rs ri)).val g3 b5 (.slice p9 q0 q1) s249.2.1 q2) (K := (k_spec_l8Close M w)) ?_ FU ([], [], 0) o253 _ _ ?_ J6 ?_)
   ·rintro s249 o253 a b5 ⟨σ, a8, i5, i6, i7, l3, l4, l5, n9, rfl, hC, hO, hK, h0, a0, b1, d1, c2⟩ hs
    refine c_seq (c_sr (mi rfl (ms rfl (pl_val _ (y_len' Sl25 (rs_len b1) rfl) (pl_val _ (y_lss rfl rfl) (c_nil ?_))))))
    rcases bif_some hs with ⟨v3, hs⟩ | ⟨v3, hs⟩
    ·refine c_condT (cb v3) (wp_skip (c_seq (wp_block (c_sr (ms rfl (ms rfl (mi rfl ?_)))))))
     obtain ⟨x266, J7, hs⟩ := bind_some hs
     obtain ⟨J8, J9, K0, v4⟩ := rs_idx Sl25 Sz43 b1 J7
     refine pl_val _ (K0 _ _ _ _ _ _ _ _ _ rfl rfl) ?_
     obtain ⟨Q9, K1, q3⟩ := at_load Ag43 Sz43 (fun _ => rfl) v4
     obtain ⟨K2, K3, K4, rfl⟩ := rs_sl q3
     refine pl_val (.slice K2 K3 K4) (y_load rfl (K1 _ (Chg.refl _ _))) ?_
     obtain ⟨r271, K5, hs⟩ := bind_some hs
     refine pl_call Bd46 rfl (c_spec_l8Find (M := a8) s249.1 x266 d1 q3 hO.fut K5) ?_
     rintro _ e6 ⟨rfl, e7⟩
     have h0 := h0.ext e7
     have a0 := a0.cn e7
     have b1 := b1.ext e7
     have d1 := d1.ext e7
     have c2 := c2.ext e7
     have q3 := q3.ext e7
     have v4 := at_ext v4 e7
     have hC := hC.ext e7
     have hO := hO.ext e7
     refine pl_val (.tuple #[(.int .i64 r271.1), (.bool r271.2)]) (y_move rfl) (pl_val (.int .i64 r271.1) (y_extract rfl (by kernel_rfl)) (pl_val (.bool r271.2) (y_extract rfl (by kernel_rfl)) (ai rfl (ab rfl (c_nil (c_sr (mb rfl (pl_val _ (y_not rfl) (c_nil ?_)))))))))
     rcases bif_some hs with ⟨v5, hs⟩ | ⟨v5, hs⟩
     ·refine c_condT (cb v5) (c_sr (ms rfl (ms rfl (mi rfl ?_))))
      obtain ⟨x273, K6, hs⟩ := bind_some hs
      obtain ⟨K7, K8, K9, v6⟩ := rs_idx Sl25 Sz43 b1 K6
      refine pl_val _ (K9 _ _ _ _ _ _ _ _ _ rfl rfl) ?_
      obtain ⟨R0, L0, l6⟩ := at_load Ag43 Sz43 (fun _ => rfl) v6
      obtain ⟨L1, L2, L3, rfl⟩ := rs_sl l6
      refine pl_val (.slice L1 L2 L3) (y_load rfl (L0 _ (Chg.refl _ _))) ?_
      obtain ⟨r278, L4, hs⟩ := bind_some hs
      refine pl_call Bd71 rfl (c_spec_l8Put (M := a8) s249.1 x273 d1 l6 hO.fut L4) ?_
      rintro _ d2 ⟨C1, C2, C3, rfl, e8, o0⟩
      have hK := hK.trans (show Keeps w a8 (Past a8 e6 d2) from Keeps.past hC.size)
      have h0 := h0.ext e8
      have a0 := a0.cn e8
      have b1 := b1.ext e8
      have d1 := d1.ext e8
      have c2 := c2.ext e8
      have l6 := l6.ext e8
      have v6 := at_ext v6 e8
      have hC := hC.ext e8
      have hO := hO.past e8
      have h0 := h0.sub (M' := (Past a8 e6 d2)) (fun g hg => .inl hg.1)
      have b1 := b1.sub (M' := (Past a8 e6 d2)) (fun g hg => .inl hg.1)
      have d1 := d1.sub (M' := (Past a8 e6 d2)) (fun g hg => .inl hg.1)
      have c2 := c2.sub (M' := (Past a8 e6 d2)) (fun g hg => .inl hg.1)
      have l6 := l6.sub (M' := (Past a8 e6 d2)) (fun g hg => .inl hg.1)
      refine ax rfl (c_nil (c_region (ms rfl (ms rfl (mi rfl ?_)))))
      obtain ⟨x280, L5, hs⟩ := bind_some hs
      obtain ⟨L6, L7, L8, v7⟩ := rs_idx Sl25 Sz43 b1 L5
      refine pl_val _ (L8 _ _ _ _ _ _ _ _ _ rfl rfl) ?_
      obtain ⟨R1, L9, l7⟩ := at_load Ag43 Sz43 (fun _ => rfl) v7
      obtain ⟨v8, v9, w1, rfl⟩ := rs_sl l7
      refine pl_val (.slice v8 v9 w1) (y_load rfl (L9 _ (Chg.refl _ _))) ?_
      obtain ⟨C4, w2, M0, C5, e9, C6⟩ := new_block d2 [(.slice v8 v9 w1)] 43
      refine pl_val (w' := C4) (.slice (some ⟨w2, 0, none⟩) 1 1) (y_bslice rfl (by rw [M0, C5]; kernel_rfl)) ?_
      have h0 := h0.ext e9
      have a0 := a0.cn e9
      have b1 := b1.ext e9
      have c2 := c2.ext e9
      have o0 := o0.ext e9
      have l7 := l7.ext e9
      have v7 := at_ext v7 e9
      have hC := hC.ext e9
      have hO := hO.new1 e9 C5 C6.lt
      have w3 := os_of_box (r := (RT.rs ri)) (M := (Past a8 e6 d2)) (css := [[(.slice v8 v9 w1)]]) (fps := [([] : List Nat)]) (xs := ([x280] : List (List Int))) C6 ⟨(rs_unval l7), trivial⟩ (Nat.le_of_ble_eq_true rfl) (List.nodup_cons.2 ⟨(fun h => nomatch h), List.nodup_nil⟩)
      have w3 : (RT.os 43 (RT.rs ri)).val (Past a8 e6 d2) C4 (.slice (some ⟨w2, 0, none⟩) 1 1) [x280] [w2] := w3
      obtain ⟨y287, M1, hs⟩ := bind_some hs
      have hO := hO.fr1
      obtain ⟨w4, w5, w6, M2, M3, M4, i9, M5, w7⟩ := app_os Rw25 M1 c2 w3 hO.inM (fun g hg hq => hO.apart g hq (mem_l hg))
      have l8 := os_block c2
      refine pl_val (w' := M2) (.slice w4 w5 w6) (y_append rfl rfl (M4 _)) ?_
      have hO := hO.fr1
      have hO := hO.fr1
      have h0 := h0.mt i9 hO l8
      have a0 := a0.ap i9 hO l8 (mem_r (mem_l (List.mem_singleton.2 rfl)))
      have b1 := b1.mt i9 hO l8
      have o0 := o0.mt i9 hO l8
      have l7 := l7.mt i9 hO l8
      have hC := hC.st i9 hO l8
      have hO := hO.eat i9 M5 (os_nodup w7) w7.fpl
      refine ax rfl (c_nil (c_region (mi rfl (pl_val (.int .i64 (w64 (s249.2.2 + 1))) (y_add rfl rfl) (ai rfl (c_nil ?_))))))
      cases hs
      have hO := hO.fr1
      have hO := hO.fr1
      exact ⟨_, (Past a8 e6 d2), C1, C2, C3, w4, w5, w6, M3, fr_ovl 172 ⟨rfl, rfl, rfl, rfl, rfl, rfl, rfl, trivial⟩, hC, hO, hK, h0, a0, b1, o0, w7⟩
     refine c_condF (cb v5) (wp_skip (c_region (mi rfl (pl_val (.int .i64 (w64 (s249.2.2 + 1))) (y_add rfl rfl) (ai rfl (c_nil ?_))))))
     cases hs
     have hO := hO.fr1
     have hO := hO.fr1
     exact ⟨_, a8, i5, i6, i7, l3, l4, l5, n9, fr_ovl 172 ⟨rfl, rfl, rfl, rfl, rfl, rfl, rfl, trivial⟩, hC, hO, hK, h0, a0, b1, d1, c2⟩
    refine c_condF (cb v3) (wp_exit ?_)
    cases hs
    have hO := hO.fr1
    have hO := hO.fr1
    exact ⟨rfl, _, a8, i5, i6, i7, l3, l4, l5, n9, fr_ovl 172 ⟨rfl, rfl, rfl, rfl, rfl, trivial⟩, hC, hO, hK, h0, a0, b1, d1, c2⟩
   ·skip
    have hO := hO.fr1
    have hO := hO.fr1
    exact ⟨_, p5, (some ⟨a6, 0, none⟩), 0, 0, (some ⟨a7, 0, none⟩), 0, 0, J3, fr_ovl 172 ⟨rfl, rfl, rfl, rfl, rfl, rfl, rfl, trivial⟩, hC, hO, hK, h0, a0, b1, n8, v1⟩
   cases o253 with
   | nx _ => exact True.intro
   | rt r_ =>
    have hs := after_rt hs
    intro b8 k5 hK
    cases hs
    exact hK
   | br s249 =>
    have hs := after_br hs
    rintro b8 b5 ⟨σ, g3, p6, p7, p8, p9, q0, q1, q2, rfl, hC, hO, hK, h0, a0, b1, M6, M7⟩
    refine c_seq (c_sr (ai rfl (c_nil ?_)))
    obtain ⟨o2570, M8, hs⟩ := bind_some hs
    refine wp_block (wp_iter (id := 6) (I := fun s2566 a b6 => ∃ (σ : Nat → Value) (g4 : Nat → Prop) (l9 : Option Addr) (m0 : Nat) (m1 : Nat) (g5 : Option Addr) (g6 : Nat) (g7 : Nat) (o1 : List Nat), a = fr 172 (ovl σ [(1, (.int .i64 k)), (3, (pq a1 0)), (8, (.slice l9 m0 m1)), (9, (.slice g5 g6 g7)), (10, (.int .i64 r9)), (17, (.int .i64 s2566.2.2))]) ∧ Chg [] w b6 ∧ Own (Nw w []) g4 b6 (o1 ++ (([a1]) ++ [])) ∧ Keeps w M g4 ∧ (RT.rs (RT.pr ri (RT.rs ri))).val g4 b6 (.slice pa0 pn0 pc0) a_.2 ([]) ∧ BoxV b6 a1 35 [(.int .i64 a_.1), (.slice pa0 pn0 pc0)] ∧ (RT.rs (RT.rs ri)).val g4 b6 (.slice l9 m0 m1) s2566.1 ([]) ∧ (RT.os 43 (RT.rs ri)).val g4 b6 (.slice g5 g6 g7) s2566.2.1 o1) (J := fun s2566 a b6 => ∃ (σ : Nat → Value) (m2 : Nat → Prop) (j0 : Option Addr) (j1 : Nat) (j2 : Nat) (C7 : Option Addr) (C8 : Nat) (C9 : Nat) (w8 : List Nat), a = fr 172 (ovl σ [(8, (.slice j0 j1 j2)), (10, (.int .i64 r9))]) ∧ Chg [] w b6 ∧ Own (Nw w []) m2 b6 (w8 ++ (([a1]) ++ [])) ∧ Keeps w M m2 ∧ (RT.rs (RT.pr ri (RT.rs ri))).val m2 b6 (.slice pa0 pn0 pc0) a_.2 ([]) ∧ BoxV b6 a1 35 [(.int .i64 a_.1), (.slice pa0 pn0 pc0)] ∧ (RT.rs (RT.rs ri)).val m2 b6 (.slice j0 j1 j2) s2566.1 ([]) ∧ (RT.os 43 (RT.rs ri)).val m2 b6 (.slice C7 C8 C9) s2566.2.1 w8) (K := (k_spec_l8Close M w)) ?_ FU (s249.1, s249.2.1, 0) o2570 _ _ ?_ M8 ?_)
    ·rintro s2566 o2570 a b6 ⟨σ, g4, l9, m0, m1, g5, g6, g7, o1, rfl, hC, hO, hK, h0, a0, q4, m3⟩ hs
     refine c_seq (c_seq (c_mid (I := fun a D0 => ∃ (σ : Nat → Value), a = fr 172 (ovl σ [(1, (.int .i64 k)), (3, (pq a1 0)), (8, (.slice l9 m0 m1)), (9, (.slice g5 g6 g7)), (10, (.int .i64 r9)), (17, (.int .i64 s2566.2.2)), (104, (.bool ((decide (s2566.2.2 < (s2566.2.1.length : Int))) && (decide ((s2566.2.1.length : Int) ≤ r9)))))]) ∧ Chg [] b6 D0) ?_ ?_))
     ·have hMid := Chg.refl [] b6
      refine c_region (mi rfl (ms rfl (pl_val _ (y_len' Sl25 (os_len m3) rfl) (pl_val _ (y_lss rfl rfl) (mb rfl ?_)))))
      rcases Bool.eq_false_or_eq_true ((decide (s2566.2.2 < (s2566.2.1.length : Int)))) with b9 | b9
      ·skip
       refine pl_yes (.slice g5 g6 g7) (tg := 99) (by kernel_rfl) (cb b9) (y_move rfl) (pl_yes (.int .i64 (s2566.2.1.length : Int)) (tg := 99) (by kernel_rfl) (cb b9) (y_len' Sl25 (os_len m3) rfl) (pl_yes (.int .i64 r9) (tg := 99) (by kernel_rfl) (cb b9) (y_move rfl) (pl_yes (.bool (decide ((s2566.2.1.length : Int) ≤ r9))) (tg := 99) (by kernel_rfl) (cb b9) (y_leq rfl rfl) (pl_val (.bool ((decide (s2566.2.2 < (s2566.2.1.length : Int))) && (decide ((s2566.2.1.length : Int) ≤ r9)))) (y_pick_t (cb b9) (cb (by rw [b9]; rfl))) (c_nil ?_)))))
       exact ⟨_, fr_ovl 172 ⟨rfl, rfl, rfl, rfl, rfl, rfl, rfl, trivial⟩, hMid⟩
      refine pl_not (tg := 99) (by kernel_rfl) (cb b9) (pl_not (tg := 99) (by kernel_rfl) (cb b9) (pl_not (tg := 99) (by kernel_rfl) (cb b9) (pl_not (tg := 99) (by kernel_rfl) (cb b9) (pl_val (.bool ((decide (s2566.2.2 < (s2566.2.1.length : Int))) && (decide ((s2566.2.1.length : Int) ≤ r9)))) (y_pick_f (cb b9) (cb (by rw [b9]; rfl))) (c_nil ?_)))))
      exact ⟨_, fr_ovl 172 ⟨rfl, rfl, rfl, rfl, rfl, rfl, rfl, trivial⟩, hMid⟩
     rintro b8 D0 ⟨σ, rfl, m4⟩
     have h0 := h0.ext m4
     have a0 := a0.cn m4
     have q4 := q4.ext m4
     have m3 := m3.ext m4
     have hC := hC.ext m4
     have hO := hO.ext m4
     rcases bif_some hs with ⟨w9, hs⟩ | ⟨w9, hs⟩
     ·refine c_condT (cb w9) (wp_skip (c_seq (wp_block (c_sr (ai rfl (c_nil ?_))))))
      obtain ⟨o3336, M9, hs⟩ := bind_some hs
      refine wp_block (wp_forC (id := 8) (a_.2.length : Int) (I := fun k3334 s3332 a b4 => ∃ (σ : Nat → Value) (d3 : Nat → Prop) (m5 : Option Addr) (m6 : Nat) (m7 : Nat) (m8 : Option Addr) (m9 : Nat) (n0 : Nat) (n1 : List Nat), a = fr 172 (ovl σ [(1, (.int .i64 k)), (3, (pq a1 0)), (8, (.slice m5 m6 m7)), (9, (.slice m8 m9 n0)), (10, (.int .i64 r9)), (17, (.int .i64 s2566.2.2)), (18, (.int .i64 k3334))]) ∧ Chg [] w b4 ∧ Own (Nw w []) d3 b4 (n1 ++ (([a1]) ++ [])) ∧ Keeps w M d3 ∧ (RT.rs (RT.pr ri (RT.rs ri))).val d3 b4 (.slice pa0 pn0 pc0) a_.2 ([]) ∧ BoxV b4 a1 35 [(.int .i64 a_.1), (.slice pa0 pn0 pc0)] ∧ (RT.rs (RT.rs ri)).val d3 b4 (.slice m5 m6 m7) s3332.1 ([]) ∧ (RT.os 43 (RT.rs ri)).val d3 b4 (.slice m8 m9 n0) s3332.2 n1) (J := fun s3332 a b4 => ∃ (σ : Nat → Value) (j3 : Nat → Prop) (q5 : Option Addr) (q6 : Nat) (q7 : Nat) (q8 : Option Addr) (q9 : Nat) (r0 : Nat) (r1 : List Nat), a = fr 172 (ovl σ [(1, (.int .i64 k)), (3, (pq a1 0)), (8, (.slice q5 q6 q7)), (9, (.slice q8 q9 r0)), (10, (.int .i64 r9)), (17, (.int .i64 s2566.2.2))]) ∧ Chg [] w b4 ∧ Own (Nw w []) j3 b4 (r1 ++ (([a1]) ++ [])) ∧ Keeps w M j3 ∧ (RT.rs (RT.pr ri (RT.rs ri))).val j3 b4 (.slice pa0 pn0 pc0) a_.2 ([]) ∧ BoxV b4 a1 35 [(.int .i64 a_.1), (.slice pa0 pn0 pc0)] ∧ (RT.rs (RT.rs ri)).val j3 b4 (.slice q5 q6 q7) s3332.1 ([]) ∧ (RT.os 43 (RT.rs ri)).val j3 b4 (.slice q8 q9 r0) s3332.2 r1) (K := (k_spec_l8Close M w)) ?_ ?_ 0 (s2566.1, s2566.2.1) o3336 _ _ ?_ M9 ?_)
      ·rintro k3334 s3332 a b4 ⟨σ, d3, m5, m6, m7, m8, m9, n0, n1, rfl, hC, hO, hK, h0, a0, j4, j5⟩ hlt
       refine c_seq (c_sr (mi rfl (pl_val (pq a1 1) (y_faddr rfl Fa35x1) (pl_val (.slice pa0 pn0 pc0) (y_load rfl ((box_load Ag33 Sz33 a0 [(.int .i64 a_.1)] [(.slice pa0 pn0 pc0)] [] rfl rfl (fun _ => rfl)) _ (Chg.refl _ _))) (pl_val _ (y_len' Sl33 (rs_len h0) rfl) (pl_val _ (y_lss rfl rfl) (c_nil (c_condF (cb (decide_eq_false hlt)) (wp_exit ?_)))))))))
       have hO := hO.fr1
       have hO := hO.fr1
       exact ⟨rfl, _, d3, m5, m6, m7, m8, m9, n0, n1, fr_ovl 172 ⟨rfl, rfl, rfl, rfl, rfl, rfl, trivial⟩, hC, hO, hK, h0, a0, j4, j5⟩
      ·rintro k3334 s3332 o3336 a b4 ⟨σ, d3, m5, m6, m7, m8, m9, n0, n1, rfl, hC, hO, hK, h0, a0, j4, j5⟩ hlt hw hs
       refine c_seq (c_sr (mi rfl (pl_val (pq a1 1) (y_faddr rfl Fa35x1) (pl_val (.slice pa0 pn0 pc0) (y_load rfl ((box_load Ag33 Sz33 a0 [(.int .i64 a_.1)] [(.slice pa0 pn0 pc0)] [] rfl rfl (fun _ => rfl)) _ (Chg.refl _ _))) (pl_val _ (y_len' Sl33 (rs_len h0) rfl) (pl_val _ (y_lss rfl rfl) (c_nil (c_condT (cb (decide_eq_true hlt)) (wp_skip (c_seq (wp_block (c_seq (x_start [] Mx rfl ?_)))))))))))))
       have j6 := Chg.drew b4
       generalize World.drew b4 = D1 at j6 ⊢
       have h0 := h0.ext j6
       have a0 := a0.cn j6
       have j4 := j4.ext j6
       have j5 := j5.ext j6
       have hC := hC.ext j6
       have hO := hO.ext j6
       have hS := Chg.refl [] D1
       refine x_p 0 (pq a1 1) rfl (by kernel_rfl)  (fun _ => y_faddr rfl Fa35x1) (fun _ => hS) (x_l 1 (.slice pa0 pn0 pc0) rfl (by kernel_rfl)  (fun w' hw' => y_load rfl ((box_load Ag33 Sz33 a0 [(.int .i64 a_.1)] [(.slice pa0 pn0 pc0)] [] rfl rfl (fun _ => rfl)) w' hw')) hS (x_p 2 (.int .i64 k3334) rfl (by kernel_rfl)  (fun _ => y_move rfl) (fun _ => hS) ?_))
       obtain ⟨x3359, N0, hs⟩ := bind_some hs
       obtain ⟨D2, D3, N1, x0⟩ := rs_idx Sl33 Sz89 h0 N0
       refine x_p 3 (pq D2 D3) rfl (by kernel_rfl)  (fun _ => N1 _ _ _ _ _ _ _ _ _ rfl rfl) (fun _ => hS) ?_
       obtain ⟨x1, _⟩ := pr_at x0
       refine x_p 4 (.pointer (some ⟨D2, D3 + 0, none⟩)) rfl (by kernel_rfl)  (fun _ => y_faddr rfl Fa89x0) (fun _ => hS) (x_l 5 (.int .i64 x3359.1) rfl (by kernel_rfl)  (fun w' hw' => y_load rfl ((at_load_int Ag3 Sz3 x1) w' hw')) hS (x_p 7 (pq a1 1) rfl (by kernel_rfl)  (fun _ => y_faddr rfl Fa35x1) (fun _ => hS) (x_l 8 (.slice pa0 pn0 pc0) rfl (by kernel_rfl)  (fun w' hw' => y_load rfl ((box_load Ag33 Sz33 a0 [(.int .i64 a_.1)] [(.slice pa0 pn0 pc0)] [] rfl rfl (fun _ => rfl)) w' hw')) hS (x_p 9 (.int .i64 k3334) rfl (by kernel_rfl)  (fun _ => y_move rfl) (fun _ => hS) ?_))))
       obtain ⟨x3362, N2, hs⟩ := bind_some hs
       obtain ⟨D4, D5, N3, x2⟩ := rs_idx Sl33 Sz89 h0 N2
       refine x_p 10 (pq D4 D5) rfl (by kernel_rfl)  (fun _ => N3 _ _ _ _ _ _ _ _ _ rfl rfl) (fun _ => hS) ?_
       obtain ⟨x3, _⟩ := pr_at x2
       refine x_p 11 (.pointer (some ⟨D4, D5 + 0, none⟩)) rfl (by kernel_rfl)  (fun _ => y_faddr rfl Fa89x0) (fun _ => hS) (x_l 12 (.int .i64 x3362.1) rfl (by kernel_rfl)  (fun w' hw' => y_load rfl ((at_load_int Ag3 Sz3 x3) w' hw')) hS (x_p 13 (.bool (decide (0 < x3362.1))) rfl (by kernel_rfl)  (fun _ => y_gtr rfl rfl) (fun _ => hS) (x_one (i := 6) (by kernel_rfl) ?_)))
       obtain ⟨y3366, N4, hs⟩ := bind_some hs
       obtain ⟨x4, x5, x6, N5, N6, N7, c3, N8, x7⟩ := mk_os (M := d3) (w := D1) (r := ri) Rw43 N4 (fun _ _ => ⟨rfl, rfl⟩)
       refine xk_val (w' := N5) (b := false) (.slice x4 x5 x6) rfl  (y_make rfl rfl N7) rfl (fun _ => hS.ext c3) ?_
       have h0 := h0.ext c3
       have a0 := a0.cn c3
       have j4 := j4.ext c3
       have j5 := j5.ext c3
       have x0 := at_ext x0 c3
       have x1 := at_ext x1 c3
       have x2 := at_ext x2 c3
       have x3 := at_ext x3 c3
       have hC := hC.ext c3
       have hO := hO.new c3 N8 (os_nodup x7) x7.fpl
       have hS := hS.ext c3
       refine x_p 14 (.slice x4 x5 x6) rfl (by kernel_rfl)  (fun _ => y_assign rfl) (fun _ => hS) (x_p 15 (.bool (decide (0 < x3362.1))) rfl (by kernel_rfl)  (fun _ => y_assign rfl) (fun _ => hS) (x_end (by kernel_rfl) ?_))
       clear hS
       obtain ⟨o3595, N9, hs⟩ := bind_some hs
       refine wp_block (wp_iter (id := 10) (I := fun s3591 a b3 => ∃ (σ : Nat → Value) (f0 : Nat → Prop) (f1 : Option Addr) (f2 : Nat) (f3 : Nat) (d4 : Option Addr) (d5 : Nat) (d6 : Nat) (j7 : List Nat) (d7 : Option Addr) (d8 : Nat) (d9 : Nat) (o2 : List Nat), a = fr 172 (ovl σ [(1, (.int .i64 k)), (3, (pq a1 0)), (8, (.slice f1 f2 f3)), (9, (.slice d4 d5 d6)), (10, (.int .i64 r9)), (17, (.int .i64 s2566.2.2)), (18, (.int .i64 k3334)), (19, (.slice d7 d8 d9)), (20, (.bool s3591.2.2.2))]) ∧ Chg [] w b3 ∧ Own (Nw w []) f0 b3 (j7 ++ (o2 ++ (([a1]) ++ []))) ∧ Keeps w M f0 ∧ (RT.rs (RT.pr ri (RT.rs ri))).val f0 b3 (.slice pa0 pn0 pc0) a_.2 ([]) ∧ BoxV b3 a1 35 [(.int .i64 a_.1), (.slice pa0 pn0 pc0)] ∧ (RT.rs (RT.rs ri)).val f0 b3 (.slice f1 f2 f3) s3591.1 ([]) ∧ (RT.os 43 (RT.rs ri)).val f0 b3 (.slice d4 d5 d6) s3591.2.1 j7 ∧ (RT.os 3 ri).val f0 b3 (.slice d7 d8 d9) s3591.2.2.1 o2) (J := fun s3591 a b3 => ∃ (σ : Nat → Value) (g8 : Nat → Prop) (r2 : Option Addr) (r3 : Nat) (r4 : Nat) (r5 : Option Addr) (r6 : Nat) (r7 : Nat) (r8 : List Nat) (D6 : Option Addr) (D7 : Nat) (D8 : Nat) (x8 : List Nat), a = fr 172 (ovl σ [(1, (.int .i64 k)), (3, (pq a1 0)), (8, (.slice r2 r3 r4)), (9, (.slice r5 r6 r7)), (10, (.int .i64 r9)), (17, (.int .i64 s2566.2.2)), (18, (.int .i64 k3334))]) ∧ Chg [] w b3 ∧ Own (Nw w []) g8 b3 (r8 ++ (x8 ++ (([a1]) ++ []))) ∧ Keeps w M g8 ∧ (RT.rs (RT.pr ri (RT.rs ri))).val g8 b3 (.slice pa0 pn0 pc0) a_.2 ([]) ∧ BoxV b3 a1 35 [(.int .i64 a_.1), (.slice pa0 pn0 pc0)] ∧ (RT.rs (RT.rs ri)).val g8 b3 (.slice r2 r3 r4) s3591.1 ([]) ∧ (RT.os 43 (RT.rs ri)).val g8 b3 (.slice r5 r6 r7) s3591.2.1 r8 ∧ (RT.os 3 ri).val g8 b3 (.slice D6 D7 D8) s3591.2.2.1 x8) (K := (k_spec_l8Close M w)) ?_ FU (s3332.1, s3332.2, y3366, (decide (0 < x3362.1))) o3595 _ _ ?_ N9 ?_)
       ·rintro s3591 o3595 a b3 ⟨σ, f0, f1, f2, f3, d4, d5, d6, j7, d7, d8, d9, o2, rfl, hC, hO, hK, h0, a0, a5, a4, e0⟩ hs
        refine c_seq (c_seq (c_mid (I := fun a D9 => ∃ (σ : Nat → Value), a = fr 172 (ovl σ [(1, (.int .i64 k)), (3, (pq a1 0)), (8, (.slice f1 f2 f3)), (9, (.slice d4 d5 d6)), (10, (.int .i64 r9)), (17, (.int .i64 s2566.2.2)), (18, (.int .i64 k3334)), (19, (.slice d7 d8 d9)), (20, (.bool s3591.2.2.2)), (134, (.bool (s3591.2.2.2 && (decide ((s3591.2.1.length : Int) ≤ r9)))))]) ∧ Chg [] b3 D9) ?_ ?_))
        ·have hMid := Chg.refl [] b3
         refine c_region (mb rfl (mb rfl ?_))
         rcases Bool.eq_false_or_eq_true (s3591.2.2.2) with c0 | c0
         ·skip
          refine pl_yes (.slice d4 d5 d6) (tg := 129) (by kernel_rfl) (cb c0) (y_move rfl) (pl_yes (.int .i64 (s3591.2.1.length : Int)) (tg := 129) (by kernel_rfl) (cb c0) (y_len' Sl25 (os_len a4) rfl) (pl_yes (.int .i64 r9) (tg := 129) (by kernel_rfl) (cb c0) (y_move rfl) (pl_yes (.bool (decide ((s3591.2.1.length : Int) ≤ r9))) (tg := 129) (by kernel_rfl) (cb c0) (y_leq rfl rfl) (pl_val (.bool (s3591.2.2.2 && (decide ((s3591.2.1.length : Int) ≤ r9)))) (y_pick_t (cb c0) (cb (by rw [c0]; rfl))) (c_nil ?_)))))
          exact ⟨_, fr_ovl 172 ⟨rfl, rfl, rfl, rfl, rfl, rfl, rfl, rfl, rfl, rfl, trivial⟩, hMid⟩
         refine pl_not (tg := 129) (by kernel_rfl) (cb c0) (pl_not (tg := 129) (by kernel_rfl) (cb c0) (pl_not (tg := 129) (by kernel_rfl) (cb c0) (pl_not (tg := 129) (by kernel_rfl) (cb c0) (pl_val (.bool (s3591.2.2.2 && (decide ((s3591.2.1.length : Int) ≤ r9)))) (y_pick_f (cb c0) (cb (by rw [c0]; rfl))) (c_nil ?_)))))
         exact ⟨_, fr_ovl 172 ⟨rfl, rfl, rfl, rfl, rfl, rfl, rfl, rfl, rfl, rfl, trivial⟩, hMid⟩
        rintro b8 D9 ⟨σ, rfl, j8⟩
        have h0 := h0.ext j8
        have a0 := a0.cn j8
        have a5 := a5.ext j8
        have a4 := a4.ext j8
        have e0 := e0.ext j8
        have hC := hC.ext j8
        have hO := hO.ext j8
        rcases bif_some hs with ⟨x9, hs⟩ | ⟨x9, hs⟩
        ·refine c_condT (cb x9) (wp_skip (wp_block (c_seq (c_sr (ms rfl (mi rfl ?_))))))
         have hO := hO.fr1
         obtain ⟨r3617, O0, hs⟩ := bind_some hs
         refine pl_call Bd72 rfl (c_spec_l1Has (M := (Less f0 o2)) s3591.2.2.1 s2566.2.2 (((Frz.os Frz.int)).val e0 Less.sub Less.not) hO.less.fut O0) ?_
         rintro _ E0 ⟨rfl, j9⟩
         have h0 := h0.ext j9
         have a0 := a0.cn j9
         have a5 := a5.ext j9
         have a4 := a4.ext j9
         have e0 := e0.ext j9
         have hC := hC.ext j9
         have hO := hO.ext j9
         refine c_nil ?_
         obtain ⟨s3674, O1, hs⟩ := bind_some hs
         refine c_mid (I := fun a g9 => ∃ (σ : Nat → Value) (f4 : Nat → Prop) (s0 : Option Addr) (s1 : Nat) (s2 : Nat) (s3 : Option Addr) (s4 : Nat) (s5 : Nat) (o3 : List Nat), a = fr 172 (ovl σ [(1, (.int .i64 k)), (3, (pq a1 0)), (8, (.slice s0 s1 s2)), (9, (.slice s3 s4 s5)), (10, (.int .i64 r9)), (17, (.int .i64 s2566.2.2)), (18, (.int .i64 k3334)), (19, (.slice d7 d8 d9)), (20, (.bool s3591.2.2.2))]) ∧ Chg [] w g9 ∧ Own (Nw w []) f4 g9 (o3 ++ (([a1]) ++ [])) ∧ Keeps w M f4 ∧ (RT.rs (RT.pr ri (RT.rs ri))).val f4 g9 (.slice pa0 pn0 pc0) a_.2 ([]) ∧ BoxV g9 a1 35 [(.int .i64 a_.1), (.slice pa0 pn0 pc0)] ∧ (RT.rs ri).val f4 g9 (.slice d7 d8 d9) s3674.2.2 ([]) ∧ (RT.rs (RT.rs ri)).val f4 g9 (.slice s0 s1 s2) s3674.1 ([]) ∧ (RT.os 43 (RT.rs ri)).val f4 g9 (.slice s3 s4 s5) s3674.2.1 o3) ?_ ?_
         ·replace hs := O1
          rcases bif_some hs with ⟨y0, hs⟩ | ⟨y0, hs⟩
          ·refine c_condT (cb y0) (c_seq (x_start [] Mx rfl ?_))
           have h2 := Chg.drew E0
           generalize World.drew E0 = f5 at h2 ⊢
           have h0 := h0.ext h2
           have a0 := a0.cn h2
           have a5 := a5.ext h2
           have a4 := a4.ext h2
           have e0 := e0.ext h2
           have hC := hC.ext h2
           have hO := hO.ext h2
           have hS := Chg.refl [] f5
           refine x_l 0 (.agg #[(.int .i64 a_.1), (.slice pa0 pn0 pc0)]) rfl (by kernel_rfl)  (fun w' hw' => y_load rfl ((box_load Ag35 Sz35 a0 [] [(.int .i64 a_.1), (.slice pa0 pn0 pc0)] [] rfl rfl (fun h => nomatch h)) w' hw')) hS (x_p 1 (.int .i64 k3334) rfl (by kernel_rfl)  (fun _ => y_move rfl) (fun _ => hS) (x_p 2 (.slice d4 d5 d6) rfl (by kernel_rfl)  (fun _ => y_move rfl) (fun _ => hS) (x_p 3 (.slice d7 d8 d9) rfl (by kernel_rfl)  (fun _ => y_move rfl) (fun _ => hS) (x_p 5 (.int .i64 k) rfl (by kernel_rfl)  (fun _ => y_move rfl) (fun _ => hS) (x_one (i := 4) (by kernel_rfl) ?_)))))
           obtain ⟨c1, R2, y1, O2, hO, a9⟩ := frz_own (Frz.os Frz.int) e0 hO
           have h0 := h0.sub (M' := c1) y1
           have a5 := a5.sub (M' := c1) y1
           have a4 := a4.sub (M' := c1) y1
           have hK := hK.trans O2
           obtain ⟨r3695, O3, hs⟩ := bind_some hs
           refine xk_call (b := false) rfl  Bd73 rfl (c_spec_l8Choose__sh (M := c1) s3591.2.1 s3591.2.2.1 a4 a9 hO.fut O3) rfl (by rintro _ _ _ ⟨O4, O5, O6, rfl, e1, n2⟩; exact hS.ext e1) ?_
           rintro _ h3 ⟨O4, O5, O6, rfl, e1, n2⟩
           have hK := hK.trans (show Keeps w c1 (Past c1 f5 h3) from Keeps.past hC.size)
           have h0 := h0.ext e1
           have a0 := a0.cn e1
           have a5 := a5.ext e1
           have a4 := a4.ext e1
           have a9 := a9.ext e1
           have hC := hC.ext e1
           have hO := hO.past e1
           have h0 := h0.sub (M' := (Past c1 f5 h3)) (fun g hg => .inl hg.1)
           have a5 := a5.sub (M' := (Past c1 f5 h3)) (fun g hg => .inl hg.1)
           have a4 := a4.sub (M' := (Past c1 f5 h3)) (fun g hg => .inl hg.1)
           have a9 := a9.sub (M' := (Past c1 f5 h3)) (fun g hg => .inl hg.1)
           have hS := hS.ext e1
           refine x_one (i := 6) (by kernel_rfl) ?_
           obtain ⟨r3698, O7, hs⟩ := bind_some hs
           refine xk_call (b := false) rfl  Bd70 rfl (c_spec_l8Apply (M := (Past c1 f5 h3)) (a_.1, a_.2) k3334 r3695 k h0 n2 hO.fut O7) rfl (by rintro _ _ _ ⟨k0, k1, k2, y2, rfl, c6, o4, E1⟩; exact hS.ext c6) ?_
           rintro _ R3 ⟨k0, k1, k2, y2, rfl, c6, o4, E1⟩
           have h0 := h0.ext c6
           have a0 := a0.cn c6
           have a5 := a5.ext c6
           have a4 := a4.ext c6
           have a9 := a9.ext c6
           have n2 := n2.ext c6
           have hC := hC.ext c6
           have hO := Own.join0 hO c6 E1
           have hO := hO.perm (R := y2 ++ (j7 ++ (([a1]) ++ ([])))) (by simp)
           have hS := hS.ext c6
           refine x_p 7 (.slice k0 k1 k2) rfl (by kernel_rfl)  (fun _ => y_assign rfl) (fun _ => hS) (x_end (by kernel_rfl) ?_)
           clear hS
           refine c_sr (ms rfl (ms rfl ?_))
           obtain ⟨r3701, O8, hs⟩ := bind_some hs
           refine pl_call Bd46 rfl (c_spec_l8Find (M := (Less (Past c1 f5 h3) y2)) s3591.1 r3698 (a5.sub Less.sub) (((Frz.os Frz.int)).val o4 Less.sub Less.not) hO.less.fut O8) ?_
           rintro _ f6 ⟨rfl, f7⟩
           have h0 := h0.ext f7
           have a0 := a0.cn f7
           have a5 := a5.ext f7
           have a4 := a4.ext f7
           have a9 := a9.ext f7
           have n2 := n2.ext f7
           have o4 := o4.ext f7
           have hC := hC.ext f7
           have hO := hO.ext f7
           refine pl_val (.tuple #[(.int .i64 r3701.1), (.bool r3701.2)]) (y_move rfl) (pl_val (.int .i64 r3701.1) (y_extract rfl (by kernel_rfl)) (pl_val (.bool r3701.2) (y_extract rfl (by kernel_rfl)) (ai rfl (ab rfl (c_nil (c_sr (mb rfl (pl_val _ (y_not rfl) (c_nil ?_)))))))))
           rcases bif_some hs with ⟨y3, hs⟩ | ⟨y3, hs⟩
           ·refine c_condT (cb y3) (c_sr (ms rfl (ms rfl ?_)))
            obtain ⟨b7, R4, s6, O9, hO, e2⟩ := frz_own (Frz.os Frz.int) o4 hO
            have h0 := h0.sub (M' := b7) s6
            have a5 := a5.sub (M' := b7) s6
            have a4 := a4.sub (M' := b7) s6
            have a9 := a9.sub (M' := b7) s6
            have hK := hK.trans O9
            obtain ⟨r3705, P0, hs⟩ := bind_some hs
            refine pl_call Bd71 rfl (c_spec_l8Put (M := b7) s3591.1 r3698 a5 e2 hO.fut P0) ?_
            rintro _ e3 ⟨E2, E3, E4, rfl, h4, o5⟩
            have hK := hK.trans (show Keeps w b7 (Past b7 f6 e3) from Keeps.past hC.size)
            have h0 := h0.ext h4
            have a0 := a0.cn h4
            have a5 := a5.ext h4
            have a4 := a4.ext h4
            have a9 := a9.ext h4
            have e2 := e2.ext h4
            have hC := hC.ext h4
            have hO := hO.past h4
            have h0 := h0.sub (M' := (Past b7 f6 e3)) (fun g hg => .inl hg.1)
            have a5 := a5.sub (M' := (Past b7 f6 e3)) (fun g hg => .inl hg.1)
            have a4 := a4.sub (M' := (Past b7 f6 e3)) (fun g hg => .inl hg.1)
            have a9 := a9.sub (M' := (Past b7 f6 e3)) (fun g hg => .inl hg.1)
            have e2 := e2.sub (M' := (Past b7 f6 e3)) (fun g hg => .inl hg.1)
            refine ax rfl (c_nil (c_region (ms rfl (ms rfl ?_))))
            obtain ⟨E5, y4, P1, E6, h5, E7⟩ := new_block e3 [(.slice k0 k1 k2)] 43
            refine pl_val (w' := E5) (.slice (some ⟨y4, 0, none⟩) 1 1) (y_bslice rfl (by rw [P1, E6]; kernel_rfl)) ?_
            have h0 := h0.ext h5
            have a0 := a0.cn h5
            have a4 := a4.ext h5
            have a9 := a9.ext h5
            have e2 := e2.ext h5
            have o5 := o5.ext h5
            have hC := hC.ext h5
            have hO := hO.new1 h5 E6 E7.lt
            have y5 := os_of_box (r := (RT.rs ri)) (M := (Past b7 f6 e3)) (css := [[(.slice k0 k1 k2)]]) (fps := [([] : List Nat)]) (xs := ([r3698] : List (List Int))) E7 ⟨(rs_unval e2), trivial⟩ (Nat.le_of_ble_eq_true rfl) (List.nodup_cons.2 ⟨(fun h => nomatch h), List.nodup_nil⟩)
            have y5 : (RT.os 43 (RT.rs ri)).val (Past b7 f6 e3) E5 (.slice (some ⟨y4, 0, none⟩) 1 1) [r3698] [y4] := y5
            obtain ⟨y3710, P2, hs⟩ := bind_some hs
            have hO := hO.fr1
            obtain ⟨y6, y7, y8, P3, P4, P5, k3, P6, y9⟩ := app_os Rw25 P2 a4 y5 hO.inM (fun g hg hq => hO.apart g hq (mem_l hg))
            have n3 := os_block a4
            refine pl_val (w' := P3) (.slice y6 y7 y8) (y_append rfl rfl (P5 _)) ?_
            have hO := hO.fr1
            have hO := hO.fr1
            have h0 := h0.mt k3 hO n3
            have a0 := a0.ap k3 hO n3 (mem_r (mem_l (List.mem_singleton.2 rfl)))
            have a9 := a9.mt k3 hO n3
            have e2 := e2.mt k3 hO n3
            have o5 := o5.mt k3 hO n3
            have hC := hC.st k3 hO n3
            have hO := hO.eat k3 P6 (os_nodup y9) y9.fpl
            refine ax rfl (c_nil ?_)
            cases hs
            have hO := hO.fr1
            have hO := hO.fr1
            exact ⟨_, (Past b7 f6 e3), E2, E3, E4, y6, y7, y8, P4, fr_ovl 172 ⟨rfl, rfl, rfl, rfl, rfl, rfl, rfl, rfl, rfl, trivial⟩, hC, hO, hK, h0, a0, a9, o5, y9⟩
           refine c_condF (cb y3) (wp_skip ?_)
           cases hs
           have hO := hO.drop
           have hO := hO.fr1
           have hO := hO.fr1
           exact ⟨_, (Past c1 f5 h3), f1, f2, f3, d4, d5, d6, j7, fr_ovl 172 ⟨rfl, rfl, rfl, rfl, rfl, rfl, rfl, rfl, rfl, trivial⟩, hC, hO, hK, h0, a0, a9, a5, a4⟩
          refine c_condF (cb y0) (wp_skip ?_)
          cases hs
          obtain ⟨s7, R5, z0, P7, hO, P8⟩ := frz_own (Frz.os Frz.int) e0 hO
          have h0 := h0.sub (M' := s7) z0
          have a5 := a5.sub (M' := s7) z0
          have a4 := a4.sub (M' := s7) z0
          have hK := hK.trans P7
          have hO := hO.fr1
          have hO := hO.fr1
          exact ⟨_, s7, f1, f2, f3, d4, d5, d6, j7, fr_ovl 172 ⟨rfl, rfl, rfl, rfl, rfl, rfl, rfl, rfl, rfl, trivial⟩, hC, hO, hK, h0, a0, P8, a5, a4⟩
         rintro b8 g9 ⟨σ, f4, s0, s1, s2, s3, s4, s5, o3, rfl, hC, hO, hK, h0, a0, z1, z2, z3⟩
         refine c_region (ms rfl (mi rfl (pl_val (.int .i64 (w64 (s2566.2.2 + 1))) (y_add rfl rfl) ?_)))
         obtain ⟨r3714, P9, hs⟩ := bind_some hs
         refine pl_call Bd74 rfl (c_spec_l8Next (M := f4) s3674.2.2 (w64 (s2566.2.2 + 1)) z1 hO.fut P9) ?_
         rintro _ R6 ⟨s8, s9, t0, E8, rfl, k4, Q0, Q1⟩
         have h0 := h0.ext k4
         have a0 := a0.cn k4
         have z1 := z1.ext k4
         have z2 := z2.ext k4
         have z3 := z3.ext k4
         have hC := hC.ext k4
         have hO := Own.join0 hO k4 Q1
         have hO := hO.perm (R := E8 ++ (o3 ++ (([a1]) ++ ([])))) (by simp)
         refine pl_val (.tuple #[(.slice s8 s9 t0), (.bool r3714.2)]) (y_move rfl) (pl_val (.slice s8 s9 t0) (y_extract rfl (by kernel_rfl)) (pl_val (.bool r3714.2) (y_extract rfl (by kernel_rfl)) (ax rfl (ab rfl (c_nil ?_)))))
         cases hs
         have hO := hO.fr2
         have hO := hO.fr1
         have hO := hO.fr2
         exact ⟨_, f4, s0, s1, s2, s3, s4, s5, o3, s8, s9, t0, E8, fr_ovl 172 ⟨rfl, rfl, rfl, rfl, rfl, rfl, rfl, rfl, rfl, trivial⟩, hC, hO, hK, h0, a0, z2, z3, Q0⟩
        refine c_condF (cb x9) (wp_exit ?_)
        cases hs
        have hO := hO.fr2
        have hO := hO.fr2
        have hO := hO.fr2
        exact ⟨rfl, _, f0, f1, f2, f3, d4, d5, d6, j7, d7, d8, d9, o2, fr_ovl 172 ⟨rfl, rfl, rfl, rfl, rfl, rfl, rfl, trivial⟩, hC, hO, hK, h0, a0, a5, a4, e0⟩
       ·skip
        have hO := hO.fr2
        have hO := hO.fr1
        have hO := hO.fr2
        exact ⟨_, d3, m5, m6, m7, m8, m9, n0, n1, x4, x5, x6, N6, fr_ovl 172 ⟨rfl, rfl, rfl, rfl, rfl, rfl, rfl, rfl, rfl, trivial⟩, hC, hO, hK, h0, a0, j4, j5, x7⟩
       cases o3595 with
       | nx _ => exact True.intro
       | rt r_ =>
        have hs := after_rt hs
        intro b8 k5 hK
        cases hs
        exact hK
       | br s3591 =>
        have hs := after_br hs
        rintro b8 b3 ⟨σ, g8, r2, r3, r4, r5, r6, r7, r8, D6, D7, D8, x8, rfl, hC, hO, hK, h0, a0, Q2, Q3, R7⟩
        refine c_region (mi rfl (pl_val (.int .i64 (w64 (k3334 + 1))) (y_add rfl rfl) (ai rfl (c_nil ?_))))
        cases hs
        have hO := hO.fr1
        have hO := hO.drop
        have hO := hO.fr1
        have hO := hO.fr1
        exact ⟨_, g8, r2, r3, r4, r5, r6, r7, r8, fr_ovl 172 ⟨rfl, rfl, rfl, rfl, rfl, rfl, congrArg (Value.int .i64) hw, trivial⟩, hC, hO, hK, h0, a0, Q2, Q3⟩
      ·skip
       have hO := hO.fr1
       have hO := hO.fr1
       exact ⟨_, g4, l9, m0, m1, g5, g6, g7, o1, fr_ovl 172 ⟨rfl, rfl, rfl, rfl, rfl, rfl, rfl, trivial⟩, hC, hO, hK, h0, a0, q4, m3⟩
      cases o3336 with
      | nx _ => exact True.intro
      | rt r_ =>
       have hs := after_rt hs
       intro b8 k5 hK
       cases hs
       exact hK
      | br s3332 =>
       have hs := after_br hs
       rintro b8 b4 ⟨σ, j3, q5, q6, q7, q8, q9, r0, r1, rfl, hC, hO, hK, h0, a0, Q4, Q5⟩
       refine c_region (mi rfl (pl_val (.int .i64 (w64 (s2566.2.2 + 1))) (y_add rfl rfl) (ai rfl (c_nil ?_))))
       cases hs
       have hO := hO.fr1
       have hO := hO.fr1
       exact ⟨_, j3, q5, q6, q7, q8, q9, r0, r1, fr_ovl 172 ⟨rfl, rfl, rfl, rfl, rfl, rfl, trivial⟩, hC, hO, hK, h0, a0, Q4, Q5⟩
     refine c_condF (cb w9) (wp_exit ?_)
     cases hs
     have hO := hO.fr1
     have hO := hO.fr1
     exact ⟨rfl, _, g4, l9, m0, m1, g5, g6, g7, o1, fr_ovl 172 ⟨rfl, rfl, trivial⟩, hC, hO, hK, h0, a0, q4, m3⟩
    ·skip
     have hO := hO.fr1
     have hO := hO.fr1
     exact ⟨_, g3, p6, p7, p8, p9, q0, q1, q2, fr_ovl 172 ⟨rfl, rfl, rfl, rfl, rfl, rfl, trivial⟩, hC, hO, hK, h0, a0, M6, M7⟩
    cases o2570 with
    | nx _ => exact True.intro
    | rt r_ =>
     have hs := after_rt hs
     intro b8 k5 hK
     cases hs
     exact hK
    | br s2566 =>
     have hs := after_br hs
     rintro b8 b6 ⟨σ, m2, j0, j1, j2, C7, C8, C9, w8, rfl, hC, hO, hK, h0, a0, E9, R8⟩
     refine c_sr (ms rfl (ms rfl (pl_val _ (y_len' Sl25 (rs_len E9) rfl) (mi rfl (pl_val _ (y_leq rfl rfl) (ax rfl (ab rfl (c_nil (wp_ret ?_)))))))))
     cases hs
     exact ⟨_, j0, j1, j2, fr_ovl 172 ⟨rfl, rfl, trivial⟩, hC, (Keeps.out hK E9)⟩

def k_spec_l3Before (M : Nat → Prop) (w0 : World) (r : Bool) (a : Act) (w : World) : Prop :=
  ∃ (σ : Nat → Value) , a = fr 18 (ovl σ [(4, (.bool r))]) ∧ Chg [] w0 w
def s_spec_l3Before (s_ : List Int) (t : List Int) : Option (Bool) :=
  (bif ((s_.length : Int) != (t.length : Int)) then some (decide ((s_.length : Int) < (t.length : Int))) else (s_spec_l3Less s_ t).bind fun r5 =>
  some r5)
set_option maxHeartbeats 4000000 in
theorem c_spec_l3Before {M : Nat → Prop} {w : World} {pa0 : Option Addr} {pn0 pc0 : Nat} {pa1 : Option Addr} {pn1 pc1 : Nat} (s_ : List Int) (t : List Int) (h0 : (RT.rs ri).val M w (.slice pa0 pn0 pc0) s_ ([])) (h1 : (RT.rs ri).val M w (.slice pa1 pn1 pc1) t ([])) (hM : ∀ g, w.heap.size ≤ g → M g) {r : Bool} (hs : s_spec_l3Before s_ t = some r) :
    Gives Try.prog 95 [(.slice pa0 pn0 pc0), (.slice pa1 pn1 pc1)] w (fun v w' => v = (.bool r) ∧ Chg [] w w') := by
 refine calls_fr Try.func95 rfl Try.ntmps95 (Nat.le_of_ble_eq_true rfl) ?_
 have hO := Own.start (N := Nw w []) hM Nw.fut
 have hC := Chg.refl [] w
 unfold s_spec_l3Before at hs
 refine wp_mono (Q := KPost (k_spec_l3Before M w r)) ?_ (fun e a a3 h => ?_)
 rotate_left
 ·cases e
  case ret =>
   obtain ⟨σ, rfl, hrest⟩ := h
   exact ret1x Try.results95 (res_tmp rfl) ⟨rfl, hrest⟩
  all_goals exact (h : False).elim
 refine c_sr (ab rfl (c_nil (c_seq (c_sr (ms rfl (pl_val _ (y_len' Sl43 (rs_len h0) rfl) (ms rfl (pl_val _ (y_len' Sl43 (rs_len h1) rfl) (pl_val (.bool ((s_.length : Int) != (t.length : Int))) (y_neq rfl rfl) (c_nil ?_))))))))))
 rcases bif_some hs with ⟨a1, hs⟩ | ⟨a1, hs⟩
 ·refine c_condT (cb a1) (c_sr (ms rfl (pl_val _ (y_len' Sl43 (rs_len h0) rfl) (ms rfl (pl_val _ (y_len' Sl43 (rs_len h1) rfl) (pl_val _ (y_lss rfl rfl) (ab rfl (c_nil (wp_ret ?_)))))))))
  cases hs
  exact ⟨_, fr_ovl 18 ⟨rfl, trivial⟩, hC⟩
 refine c_condF (cb a1) (wp_skip (c_sr (ms rfl (ms rfl ?_))))
 obtain ⟨r5, a2, hs⟩ := bind_some hs
 refine pl_call Bd85 rfl (c_spec_l3Less (M := M) s_ t h0 h1 hO.fut a2) ?_
 rintro _ a4 ⟨rfl, a0⟩
 have h0 := h0.ext a0
 have h1 := h1.ext a0
 have hC := hC.ext a0
 have hO := hO.ext a0
 refine ab rfl (c_nil (wp_ret ?_))
 cases hs
 exact ⟨_, fr_ovl 18 ⟨rfl, trivial⟩, hC⟩

theorem Bd95 : Bodied Try.prog 95 := bodied Try.func95 (by kernel_rfl) rfl

def k_spec_l8Better__take3 (M : Nat → Prop) (w0 : World) (qa0 : Option Addr) (qn0 qc0 : Nat) (qf0 : List Nat) (qa1 : Option Addr) (qn1 qc1 : Nat) (qf1 : List Nat) (r : (List (List Int))) (a : Act) (w : World) : Prop :=
  ∃ (σ : Nat → Value) (rfi0 : List Nat), a = fr 34 (ovl σ []) ∧ Chg (qf0 ++ (qf1 ++ ([]))) w0 w ∧ (RT.os 43 (RT.os 3 (RT.int .i64))).val M w (.slice qa0 qn0 qc0) r rfi0 ∧ Own (Nw w0 (qf0 ++ (qf1 ++ ([])))) (fun _ => True) w (rfi0 ++ ([]))
def s_spec_l8Better__take3 (out : List (List Int)) (tuples : List (List Int)) (tuple : List Int) (t : List Int) : Option ((List (List Int))) :=
  (s_spec_l8Find tuples tuple).bind fun r6 =>
  ((idx out r6.1).bind fun x10 =>
  (bif ((x10.length : Int) == 0) then some true else (idx out r6.1).bind fun x15 =>
  (s_spec_l3Before t x15).bind fun r20 =>
  some r20)).bind fun s7 =>
  (bif s7 then (idx out r6.1).bind fun x22 =>
  some (List.set out (Int.toNat r6.1) t) else some out)
set_option maxHeartbeats 4000000 in
theorem c_spec_l8Better__take3 {M : Nat → Prop} {w : World} {pa0 : Option Addr} {pn0 pc0 : Nat} {pf0 : List Nat} {pa1 : Option Addr} {pn1 pc1 : Nat} {pa2 : Option Addr} {pn2 pc2 : Nat} {pa3 : Option Addr} {pn3 pc3 : Nat} {pf3 : List Nat} (out : List (List Int)) (tuples : List (List Int)) (tuple : List Int) (t : List Int) (h0 : (RT.os 43 (RT.os 3 ri)).val M w (.slice pa0 pn0 pc0) out pf0) (h1 : (RT.rs (RT.rs ri)).val M w (.slice pa1 pn1 pc1) tuples ([])) (h2 : (RT.rs ri).val M w (.slice pa2 pn2 pc2) tuple ([])) (h3 : (RT.os 3 ri).val M w (.slice pa3 pn3 pc3) t pf3) (hI : Own (Nw w (pf0 ++ (pf3 ++ ([])))) M w (pf0 ++ (pf3 ++ ([])))) (hM : ∀ g, w.heap.size ≤ g → M g) {r : (List (List Int))} (hs : s_spec_l8Better__take3 out tuples tuple t = some r) :
    Gives Try.prog 94 [(.slice pa0 pn0 pc0), (.slice pa1 pn1 pc1), (.slice pa2 pn2 pc2), (.slice pa3 pn3 pc3)] w (fun v w' => ∃ (rfi0 : List Nat), v = (.tuple #[]) ∧ Chg (pf0 ++ (pf3 ++ ([]))) w w' ∧ (RT.os 43 (RT.os 3 ri)).val M w' (.slice pa0 pn0 pc0) r rfi0 ∧ Own (Nw w (pf0 ++ (pf3 ++ ([])))) (fun _ => True) w' (rfi0 ++ ([]))) := by
 refine calls_fr Try.func94 rfl Try.ntmps94 (Nat.le_of_ble_eq_true rfl) ?_
 have hO := hI
 have hC := Chg.refl (pf0 ++ (pf3 ++ ([]))) w
 unfold s_spec_l8Better__take3 at hs
 refine wp_mono (Q := KPostN (k_spec_l8Better__take3 M w pa0 pn0 pc0 pf0 pa3 pn3 pc3 pf3 r)) ?_ (fun e a e6 h => ?_)
 rotate_left
 ·cases e
  case ret =>
   obtain ⟨σ, rfi0, rfl, hrest⟩ := h
   exact ret0x Try.results94  ⟨rfi0, rfl, hrest⟩
  case normal =>
   obtain ⟨σ, rfi0, rfl, hrest⟩ := h
   exact ret0n Try.results94  ⟨rfi0, rfl, hrest⟩
  all_goals exact (h : False).elim
 refine c_sr (ms rfl (ms rfl ?_))
 obtain ⟨r6, b7, hs⟩ := bind_some hs
 refine pl_call Bd46 rfl (c_spec_l8Find (M := M) tuples tuple h1 h2 hO.fut b7) ?_
 rintro _ b2 ⟨rfl, a2⟩
 have h0 := h0.ext a2
 have h1 := h1.ext a2
 have h2 := h2.ext a2
 have h3 := h3.ext a2
 have hC := hC.ext a2
 have hO := hO.ext a2
 refine pl_val (.tuple #[(.int .i64 r6.1), (.bool r6.2)]) (y_move rfl) (pl_val (.int .i64 r6.1) (y_extract rfl (by kernel_rfl)) (pl_val (.bool r6.2) (y_extract rfl (by kernel_rfl)) (ai rfl (ab rfl (c_nil (c_seq ?_))))))
 obtain ⟨s7, b8, hs⟩ := bind_some hs
 refine c_mid (I := fun a b3 => ∃ (σ : Nat → Value), a = fr 34 (ovl σ [(0, (.slice pa0 pn0 pc0)), (3, (.slice pa3 pn3 pc3)), (8, (.int .i64 r6.1)), (29, (.bool s7))]) ∧ Chg [] b2 b3) ?_ ?_
 ·replace hs := b8
  have hMid := Chg.refl [] b2
  refine c_region (ms rfl (mi rfl ?_))
  obtain ⟨x10, b9, hs⟩ := bind_some hs
  obtain ⟨c0, e7, e8, e9, c1, a6, c2⟩ := os_idx Sl25 Sz43 h0 b9
  have a7 := own_row (Frz.os Frz.int) a6 c2
  refine pl_val _ (c1 _ _ _ _ _ _ _ _ _ rfl rfl) ?_
  obtain ⟨f0, c3, hrow12, a3⟩ := at_load1 Ag43 Sz43 rfl rfl a7
  obtain ⟨c4, c5, c6, rfl⟩ := rs_sl a3
  refine pl_val (.slice c4 c5 c6) (y_load rfl (c3 _ (Chg.refl _ _))) (pl_val _ (y_len' Sl43 (rs_len a3) rfl) (pl_val (.bool ((x10.length : Int) == 0)) (y_eql rfl rfl) (mb rfl ?_)))
  rcases bif_some hs with ⟨a0, hs⟩ | ⟨a0, hs⟩
  ·skip
   refine pl_not (tg := 22) (by kernel_rfl) (cb a0) (pl_not (tg := 22) (by kernel_rfl) (cb a0) (pl_not (tg := 22) (by kernel_rfl) (cb a0) (pl_not (tg := 22) (by kernel_rfl) (cb a0) (pl_not (tg := 22) (by kernel_rfl) (cb a0) (pl_not (tg := 22) (by kernel_rfl) (cb a0) (pl_val (.bool true) (y_pick_t (cb a0) rfl) (c_nil ?_)))))))
   cases hs
   exact ⟨_, fr_ovl 34 ⟨rfl, rfl, rfl, rfl, trivial⟩, hMid⟩
  refine pl_yes (.slice pa3 pn3 pc3) (tg := 22) (by kernel_rfl) (cb a0) (y_move rfl) (pl_yes (.slice pa0 pn0 pc0) (tg := 22) (by kernel_rfl) (cb a0) (y_move rfl) (pl_yes (.int .i64 r6.1) (tg := 22) (by kernel_rfl) (cb a0) (y_move rfl) ?_))
  obtain ⟨x15, c7, hs⟩ := bind_some hs
  obtain ⟨c8, f1, f2, f3, c9, a8, d0⟩ := os_idx Sl25 Sz43 h0 c7
  have a9 := own_row (Frz.os Frz.int) a8 d0
  refine pl_yes (.pointer (some ⟨c8, 0 + Int.toNat r6.1 * 1, none⟩)) (tg := 22) (by kernel_rfl) (cb a0) (c9 _ _ _ _ _ _ _ _ _ rfl rfl) ?_
  obtain ⟨f4, d1, hrow17, a4⟩ := at_load1 Ag43 Sz43 rfl rfl a9
  obtain ⟨d2, d3, d4, rfl⟩ := rs_sl a4
  refine pl_yes (.slice d2 d3 d4) (tg := 22) (by kernel_rfl) (cb a0) (y_load rfl (d1 _ (Chg.refl _ _))) ?_
  have hO := hO.fr1
  obtain ⟨r20, d5, hs⟩ := bind_some hs
  refine pl_cally (tg := 22) (by kernel_rfl) (cb a0) Bd95 rfl (c_spec_l3Before (M := (Less (Less M pf3) pf0)) t x15 ((((Frz.os Frz.int)).val h3 Less.sub Less.not).sub Less.sub) (a4.sub (M' := (Less (Less M pf3) pf0)) (fun g h => .inl (by simp only [Less] at h ⊢; simp [h]))) (hO.less).less.fut d5) ?_
  rintro _ f5 ⟨rfl, a1⟩
  have h0 := h0.ext a1
  have h3 := h3.ext a1
  have a3 := a3.ext a1
  have hrow12 := hrow12.cn a1
  have a4 := a4.ext a1
  have hrow17 := hrow17.cn a1
  have hMid := hMid.ext a1
  have a6 := at_ext a6 a1
  have a7 := at_ext a7 a1
  have a8 := at_ext a8 a1
  have a9 := at_ext a9 a1
  have hC := hC.ext a1
  have hO := hO.ext a1
  refine pl_val (.bool r20) (y_pick_f (cb a0) rfl) (c_nil ?_)
  cases hs
  exact ⟨_, fr_ovl 34 ⟨rfl, rfl, rfl, rfl, trivial⟩, hMid⟩
 rintro f6 b3 ⟨σ, rfl, a5⟩
 have h0 := h0.ext a5
 have h3 := h3.ext a5
 have hC := hC.ext a5
 have hO := hO.ext a5
 rcases bif_some hs with ⟨b0, hs⟩ | ⟨b0, hs⟩
 ·refine c_condT (cb b0) (c_region (ms rfl (mi rfl (ms rfl ?_))))
  obtain ⟨x22, d6, hs⟩ := bind_some hs
  obtain ⟨b4, f7, b5, d7, d8, d9, e0⟩ := os_idx Sl25 Sz43 h0 d6
  have f8 := own_row (Frz.os Frz.int) d9 e0
  refine pl_val _ (d8 _ _ _ _ _ _ _ _ _ rfl rfl) ?_
  have hO := hO.fr1
  have hO := hO.fr1
  obtain ⟨e1, e2, e3, b6, e4, b1⟩ := os_store (P := Try.prog) (c' := [(.slice pa3 pn3 pc3)]) b5 h0 d7 (fun g hg => hO.inM g (os_block h0 g (by simpa using hg))) (os_unval h3) (hO.drop.perm (R := pf3 ++ ([])) (by simp)).nd (fun g hg hq => hO.apart g hq (by simp only [List.mem_append, List.not_mem_nil, false_or, or_false] at hg ⊢; simp [hg])) (fun _ h => .inl h)
  have e5 : ∀ q ∈ [b4], q ∈ pf0 := fun q hq => os_block h0 q (by rw [b5]; exact hq)
  refine pl_skip (w' := e1) (ys_store rfl rfl (e3 _ _ rfl Sz43)) ?_
  have hO := hO.fr1
  have hO := hO.fr1
  have hC := hC.st b6 hO e5
  have hO := hO.perm (R := pf0 ++ (pf3 ++ ([]))) (by simp)
  have hO := hO.eat b6 (fun q hq => (e4 q hq).elim .inl (fun h => .inr (.inl h))) (os_nodup b1) b1.fpl
  refine c_nil ?_
  cases hs
  exact ⟨_, e2, fr_ovl 34 trivial, hC, b1, hO.top⟩
 refine c_condF (cb b0) (wp_skip ?_)
 cases hs
 have hO := hO.fr1
 have hO := hO.drop
 exact ⟨_, pf0, fr_ovl 34 trivial, hC, h0, hO.top⟩

theorem Rw111 : RowT Try.prog 111 4 1 [(.bool false)] := ⟨Try.underlying111, ⟨_, _, rfl, rfl, rfl, rfl, by decide⟩, rfl, by decide⟩

theorem Bd94 : Bodied Try.prog 94 := bodied Try.func94 (by kernel_rfl) rfl

theorem Sl111 : SlT Try.prog 111 4 := Try.underlying111

theorem Sz4 : SzT Try.prog 4 1 := ⟨_, rfl, rfl⟩

theorem Ag4 : AggT Try.prog 4 false := fun _ => by kernel_rfl

def k_spec_l8Terms (M : Nat → Prop) (w0 : World) (r : (List (List Int))) (a : Act) (w : World) : Prop :=
  ∃ (σ : Nat → Value) (ra0 : Option Addr) (rn0 rc0 : Nat) (rf0 : List Nat), a = fr 215 (ovl σ [(8, (.slice ra0 rn0 rc0))]) ∧ Chg [] w0 w ∧ (RT.os 43 (RT.os 3 (RT.int .i64))).val M w (.slice ra0 rn0 rc0) r rf0 ∧ Own (Nw w0 []) (fun _ => True) w (rf0 ++ ([]))
def s_spec_l8Terms (a_ : Int × (List (Int × (List Int)))) (k : Int) (gens : List (List Int)) (tuples : List (List Int)) : Option ((List (List Int))) :=
  (mks (tuples.length : Int) ([] : List Int)).bind fun y7 =>
  (mks (tuples.length : Int) (false : Bool)).bind fun y10 =>
  (forC (S := (List (List Int))) (R := (List (List Int))) (fun k122 s120 =>
  (idx gens k122).bind fun x128 =>
  (s_spec_l8Find tuples x128).bind fun r133 =>
  (idx s120 r133.1).bind fun x134 =>
  (bif ((x134.length : Int) == 0) then (idx s120 r133.1).bind fun x141 =>
  some (.nx (List.set s120 (Int.toNat r133.1) ([k122]))) else some (.nx s120))) 0 (gens.length : Int) y7).bind fun o124 => after o124 (fun r_ => some r_) (fun s120 =>
  (forC (S := (List (List Int))) (R := (List (List Int))) (fun k173 s171 =>
  (idx a_.2 k173).bind fun x179 =>
  (bif (x179.1 == 0) then (s_spec_l8Apply (a_.1, a_.2) k173 ([]) k).bind fun r186 =>
  (s_spec_l8Better__take3 s171 tuples r186 ([w64 ((-1) - k173)])).bind fun r191 =>
  some (.nx r191) else some (.nx s171))) 0 (a_.2.length : Int) s120).bind fun o175 => after o175 (fun r_ => some r_) (fun s171 =>
  (iter (S := (List Int) × (List (List Int)) × (List Bool)) (R := (List (List Int))) (fun s3253 =>
  (forC (S := Int) (R := (List (List Int))) (fun k3295 s3293 =>
  ((idx s3253.2.2 k3295).bind fun x3303 =>
  (bif (!x3303) then (idx s3253.2.1 k3295).bind fun x3306 =>
  (bif (decide (0 < (x3306.length : Int))) then (bif (decide (s3293 < 0)) then some true else (idx s3253.2.1 k3295).bind fun x3312 =>
  (idx s3253.2.1 s3293).bind fun x3316 =>
  (s_spec_l3Before x3312 x3316).bind fun r3321 =>
  some r3321) else some false) else some false)).bind fun s3299 =>
  (bif s3299 then some (.nx k3295) else some (.nx s3293))) 0 (s3253.2.1.length : Int) (-1)).bind fun o3297 => after o3297 (fun r_ => some (.rt r_)) (fun s3293 =>
  (bif (decide (s3293 < 0)) then some (.rt s3253.2.1) else (idx s3253.2.2 s3293).bind fun x3324 =>
  (app s3253.1 ([s3293])).bind fun y3330 =>
  (forC (S := (List (List Int))) (R := (List (List Int))) (fun k4304 s4302 =>
  (idx a_.2 k4304).bind fun x4323 =>
  (idx a_.2 k4304).bind fun x4326 =>
  (mks x4323.1 (0 : Int)).bind fun y4330 =>
  (iter (S := (List Int) × Bool × (List (List Int))) (R := (List (List Int))) (fun s4634 =>
  (bif s4634.2.1 then (s_spec_l1Has s4634.1 (w64 ((y3330.length : Int) - 1))).bind fun r4650 =>
  (bif r4650 then (iter (S := (List Int) × (List (List Int)) × Int) (R := (List (List Int))) (fun s4725 =>
  (bif ((decide (s4725.2.2 < (s4634.1.length : Int))) && (decide ((s4725.1.length : Int) ≤ 60))) then (idx s4634.1 s4725.2.2).bind fun x4746 =>
  (idx y3330 x4746).bind fun x4748 =>
  (idx s4634.2.2 x4748).bind fun x4750 =>
  (app s4725.1 x4750).bind fun y4755 =>
  (idx s4634.1 s4725.2.2).bind fun x4757 =>
  (idx y3330 x4757).bind fun x4759 =>
  (idx tuples x4759).bind fun x4761 =>
  (app s4725.2.1 ([x4761])).bind fun y4768 =>
  some (.nx (y4755, y4768, w64 (s4725.2.2 + 1))) else some (.br (s4725.1, s4725.2.1, s4725.2.2)))) FU ([w64 ((-1) - k4304)], [], 0)).bind fun o4729 => after o4729 (fun r_ => some (.rt r_)) (fun s4725 =>
  (bif (decide ((s4725.1.length : Int) ≤ 60)) then (s_spec_l8Apply (a_.1, a_.2) k4304 s4725.2.1 k).bind fun r4786 =>
  (s_spec_l8Better__take3 s4634.2.2 tuples r4786 s4725.1).bind fun r4789 =>
  some r4789 else some s4634.2.2).bind fun s4780 =>
  (s_spec_l8Next s4634.1 (w64 ((w64 ((y3330.length : Int) - 1)) + 1))).bind fun r4791 =>
  some (.nx (r4791.1, r4791.2, s4780))) else (s_spec_l8Next s4634.1 (w64 ((w64 ((y3330.length : Int) - 1)) + 1))).bind fun r4794 =>
  some (.nx (r4794.1, r4794.2, s4634.2.2))) else some (.br (s4634.1, s4634.2.1, s4634.2.2)))) FU (y4330, (decide (0 < x4326.1)), s4302)).bind fun o4638 => after o4638 (fun r_ => some (.rt r_)) (fun s4634 =>
  some (.nx s4634.2.2))) 0 (a_.2.length : Int) s3253.2.1).bind fun o4306 => after o4306 (fun r_ => some (.rt r_)) (fun s4302 =>
  some (.nx (y3330, s4302, List.set s3253.2.2 (Int.toNat s3293) true)))))) FU ([], s171, y10)).bind fun o3257 => after o3257 (fun r_ => some r_) (fun _ =>
  none)))
set_option maxHeartbeats 4000000 in
theorem c_spec_l8Terms {M : Nat → Prop} {w : World} {pa0 : Option Addr} {pn0 pc0 : Nat} {pa1 : Option Addr} {pn1 pc1 : Nat} {pa2 : Option Addr} {pn2 pc2 : Nat} (a_ : Int × (List (Int × (List Int)))) (k : Int) (gens : List (List Int)) (tuples : List (List Int)) (h0 : (RT.rs (RT.pr ri (RT.rs ri))).val M w (.slice pa0 pn0 pc0) a_.2 ([])) (h1 : (RT.rs (RT.rs ri)).val M w (.slice pa1 pn1 pc1) gens ([])) (h2 : (RT.rs (RT.rs ri)).val M w (.slice pa2 pn2 pc2) tuples ([])) (hM : ∀ g, w.heap.size ≤ g → M g) {r : (List (List Int))} (hs : s_spec_l8Terms a_ k gens tuples = some r) :
    Gives Try.prog 53 [(.agg #[(.int .i64 a_.1), (.slice pa0 pn0 pc0)]), (.int .i64 k), (.slice pa1 pn1 pc1), (.slice pa2 pn2 pc2)] w (fun v w' => ∃ (ra0 : Option Addr) (rn0 rc0 : Nat) (rf0 : List Nat), v = (.slice ra0 rn0 rc0) ∧ Chg [] w w' ∧ (RT.os 43 (RT.os 3 ri)).val M w' (.slice ra0 rn0 rc0) r rf0 ∧ Own (Nw w []) (fun _ => True) w' (rf0 ++ ([]))) := by
 refine calls_fr Try.func53 rfl Try.ntmps53 (Nat.le_of_ble_eq_true rfl) ?_
 have hO := Own.start (N := Nw w []) hM Nw.fut
 have hC := Chg.refl [] w
 unfold s_spec_l8Terms at hs
 refine wp_mono (Q := KPost (k_spec_l8Terms M w r)) ?_ (fun e a l3 h => ?_)
 rotate_left
 ·cases e
  case ret =>
   obtain ⟨σ, ra0, rn0, rc0, rf0, rfl, hrest⟩ := h
   exact ret1x Try.results53 (res_tmp rfl) ⟨ra0, rn0, rc0, rf0, rfl, hrest⟩
  all_goals exact (h : False).elim
 refine c_sr ?_
 obtain ⟨t2, a1, J1, C4, n9, a0⟩ := new_block w [(.int .i64 a_.1), (.slice pa0 pn0 pc0)] 35
 refine pl_val (w' := t2) (pq a1 0) (y_box rfl (by rw [J1, C4]; kernel_rfl)) ?_
 have h0 := h0.ext n9
 have h1 := h1.ext n9
 have h2 := h2.ext n9
 have hC := hC.ext n9
 have hO := hO.new1 n9 C4 a0.lt
 refine ax rfl (c_nil (c_seq ?_))
 obtain ⟨y7, o0, hs⟩ := bind_some hs
 obtain ⟨y10, o1, hs⟩ := bind_some hs
 refine c_mid (I := fun a f9 => ∃ (σ : Nat → Value) (a4 : Option Addr) (a8 : Option Addr) (a5 : Nat) (a9 : Nat) (q3 : List Nat) (d3 : List Nat) (b2 : Nat) (a6 : Nat) (b0 : Nat), a = fr 215 (ovl σ [(1, (.int .i64 k)), (2, (.slice pa1 pn1 pc1)), (3, (.slice pa2 pn2 pc2)), (4, (pq a1 0)), (8, (.slice none 0 0)), (9, (.slice a4 a6 a5)), (10, (.slice a8 b0 a9)), (11, (.slice (some ⟨b2, 0, none⟩) 0 0))]) ∧ Chg [] w f9 ∧ Own (Nw w []) M f9 (([b2]) ++ (d3 ++ (q3 ++ (([a1]) ++ [])))) ∧ (RT.rs (RT.pr ri (RT.rs ri))).val M f9 (.slice pa0 pn0 pc0) a_.2 ([]) ∧ (RT.rs (RT.rs ri)).val M f9 (.slice pa1 pn1 pc1) gens ([]) ∧ (RT.rs (RT.rs ri)).val M f9 (.slice pa2 pn2 pc2) tuples ([]) ∧ BoxV f9 a1 35 [(.int .i64 a_.1), (.slice pa0 pn0 pc0)] ∧ (RT.os 43 (RT.os 3 ri)).val M f9 (.slice a4 a6 a5) y7 q3 ∧ (RT.os 4 RT.bool).val M f9 (.slice a8 b0 a9) y10 d3 ∧ (RT.os 3 ri).val M f9 (.slice (some ⟨b2, 0, none⟩) 0 0) ([]) ([b2])) ?_ ?_
 ·skip
  refine x_start [] Mx rfl ?_
  have l4 := Chg.drew t2
  generalize World.drew t2 = q4 at l4 ⊢
  have h0 := h0.ext l4
  have h1 := h1.ext l4
  have h2 := h2.ext l4
  have a0 := a0.cn l4
  have hC := hC.ext l4
  have hO := hO.ext l4
  have hS := Chg.refl [] q4
  refine x_p 0 (.slice pa2 pn2 pc2) rfl (by kernel_rfl)  (fun _ => y_move rfl) (fun _ => hS) (x_p 1 (.int .i64 (tuples.length : Int)) rfl (by kernel_rfl)  (fun _ => y_len' Sl25 (rs_len h2) rfl) (fun _ => hS) (x_p 3 (.slice pa2 pn2 pc2) rfl (by kernel_rfl)  (fun _ => y_move rfl) (fun _ => hS) (x_p 4 (.int .i64 (tuples.length : Int)) rfl (by kernel_rfl)  (fun _ => y_len' Sl25 (rs_len h2) rfl) (fun _ => hS) (x_many [2, 5, 6] (by kernel_rfl) (fun h => nomatch h) (all3 ?_ ?_ ?_)))))
  ·skip
   obtain ⟨q5, q6, q7, t3, C5, J2, k1, J3, e7⟩ := mk_os (M := M) (w := q4) (r := (RT.os 3 ri)) Rw25 o0 (fun _ _ => (os_unval os_nil))
   refine xk_val (w' := t3) (b := false) (.slice q5 q6 q7) rfl  (y_make rfl rfl J2) rfl (fun _ => hS.ext k1) ?_
   have h0 := h0.ext k1
   have h1 := h1.ext k1
   have h2 := h2.ext k1
   have a0 := a0.cn k1
   have hC := hC.ext k1
   have hO := hO.new k1 J3 (os_nodup e7) e7.fpl
   have hS := hS.ext k1
   refine x_p 7 (.slice q5 q6 q7) rfl (by kernel_rfl)  (fun _ => y_assign rfl) (fun _ => hS) (x_two (i := 5) (j := 6) (by kernel_rfl) ?_ ?_)
   ·skip
    obtain ⟨t4, t5, t6, C6, J4, J5, h8, J6, o2⟩ := mk_os (M := M) (w := t3) (r := RT.bool) Rw111 o1 (fun _ _ => ⟨rfl, rfl⟩)
    refine xk_val (w' := C6) (b := false) (.slice t4 t5 t6) rfl  (y_make rfl rfl J5) rfl (fun _ => hS.ext h8) ?_
    have h0 := h0.ext h8
    have h1 := h1.ext h8
    have h2 := h2.ext h8
    have a0 := a0.cn h8
    have e7 := e7.ext h8
    have hC := hC.ext h8
    have hO := hO.new h8 J6 (os_nodup o2) o2.fpl
    have hS := hS.ext h8
    refine x_p 8 (.slice t4 t5 t6) rfl (by kernel_rfl)  (fun _ => y_assign rfl) (fun _ => hS) (x_one (i := 6) (by kernel_rfl) ?_)
    obtain ⟨C7, o3, J7, C8, g0, C9⟩ := new_block C6 [] 3
    refine xk_val (w' := C7) (b := false) (.slice (some ⟨o3, 0, none⟩) 0 0) rfl  (y_bslice rfl (by rw [J7, C8]; kernel_rfl)) rfl (fun _ => hS.ext g0) ?_
    have h0 := h0.ext g0
    have h1 := h1.ext g0
    have h2 := h2.ext g0
    have a0 := a0.cn g0
    have e7 := e7.ext g0
    have o2 := o2.ext g0
    have hC := hC.ext g0
    have hO := hO.new1 g0 C8 C9.lt
    have t7 := os_of_box (r := ri) (M := M) (css := []) (fps := []) (xs := ([] : List Int)) C9 trivial (Nat.zero_le _) (List.nodup_cons.2 ⟨(fun h => nomatch h), List.nodup_nil⟩)
    have t7 : (RT.os 3 ri).val M C7 (.slice (some ⟨o3, 0, none⟩) 0 0) [] [o3] := t7
    have hS := hS.ext g0
    refine x_p 9 (.slice (some ⟨o3, 0, none⟩) 0 0) rfl (by kernel_rfl)  (fun _ => y_assign rfl) (fun _ => hS) (x_end (by kernel_rfl) ?_)
    clear hS
    have hO := hO.fr3
    have hO := hO.fr3
    have hO := hO.fr3
    have hO := hO.fr3
    exact ⟨_, q5, t4, q7, t6, C5, J4, o3, q6, t5, fr_ovl 215 ⟨rfl, rfl, rfl, rfl, rfl, rfl, rfl, rfl, trivial⟩, hC, hO, h0, h1, h2, a0, e7, o2, t7⟩
   ·skip
    obtain ⟨t8, o4, J8, D0, h9, D1⟩ := new_block t3 [] 3
    refine xk_val (w' := t8) (b := false) (.slice (some ⟨o4, 0, none⟩) 0 0) rfl  (y_bslice rfl (by rw [J8, D0]; kernel_rfl)) rfl (fun _ => hS.ext h9) ?_
    have h0 := h0.ext h9
    have h1 := h1.ext h9
    have h2 := h2.ext h9
    have a0 := a0.cn h9
    have e7 := e7.ext h9
    have hC := hC.ext h9
    have hO := hO.new1 h9 D0 D1.lt
    have o5 := os_of_box (r := ri) (M := M) (css := []) (fps := []) (xs := ([] : List Int)) D1 trivial (Nat.zero_le _) (List.nodup_cons.2 ⟨(fun h => nomatch h), List.nodup_nil⟩)
    have o5 : (RT.os 3 ri).val M t8 (.slice (some ⟨o4, 0, none⟩) 0 0) [] [o4] := o5
    have hS := hS.ext h9
    refine x_one (i := 5) (by kernel_rfl) ?_
    obtain ⟨t9, u0, u1, J9, K0, K1, g1, K2, u2⟩ := mk_os (M := M) (w := t8) (r := RT.bool) Rw111 o1 (fun _ _ => ⟨rfl, rfl⟩)
    refine xk_val (w' := J9) (b := false) (.slice t9 u0 u1) rfl  (y_make rfl rfl K1) rfl (fun _ => hS.ext g1) ?_
    have h0 := h0.ext g1
    have h1 := h1.ext g1
    have h2 := h2.ext g1
    have a0 := a0.cn g1
    have e7 := e7.ext g1
    have o5 := o5.ext g1
    have hC := hC.ext g1
    have hO := hO.new g1 K2 (os_nodup u2) u2.fpl
    have hS := hS.ext g1
    refine x_p 8 (.slice t9 u0 u1) rfl (by kernel_rfl)  (fun _ => y_assign rfl) (fun _ => hS) (x_p 9 (.slice (some ⟨o4, 0, none⟩) 0 0) rfl (by kernel_rfl)  (fun _ => y_assign rfl) (fun _ => hS) (x_end (by kernel_rfl) ?_))
    clear hS
    have hO := hO.fr3
    have hO := hO.fr3
    have hO := hO.fr2
    have hO := hO.fr3
    exact ⟨_, q5, t9, q7, u1, C5, K0, o4, q6, u0, fr_ovl 215 ⟨rfl, rfl, rfl, rfl, rfl, rfl, rfl, rfl, trivial⟩, hC, hO, h0, h1, h2, a0, e7, u2, o5⟩
  ·skip
   obtain ⟨o6, o7, o8, u3, D2, K3, k2, K4, e8⟩ := mk_os (M := M) (w := q4) (r := RT.bool) Rw111 o1 (fun _ _ => ⟨rfl, rfl⟩)
   refine xk_val (w' := u3) (b := false) (.slice o6 o7 o8) rfl  (y_make rfl rfl K3) rfl (fun _ => hS.ext k2) ?_
   have h0 := h0.ext k2
   have h1 := h1.ext k2
   have h2 := h2.ext k2
   have a0 := a0.cn k2
   have hC := hC.ext k2
   have hO := hO.new k2 K4 (os_nodup e8) e8.fpl
   have hS := hS.ext k2
   refine x_two (i := 2) (j := 6) (by kernel_rfl) ?_ ?_
   ·skip
    obtain ⟨u4, u5, u6, D3, K5, K6, i0, K7, o9⟩ := mk_os (M := M) (w := u3) (r := (RT.os 3 ri)) Rw25 o0 (fun _ _ => (os_unval os_nil))
    refine xk_val (w' := D3) (b := false) (.slice u4 u5 u6) rfl  (y_make rfl rfl K6) rfl (fun _ => hS.ext i0) ?_
    have h0 := h0.ext i0
    have h1 := h1.ext i0
    have h2 := h2.ext i0
    have a0 := a0.cn i0
    have e8 := e8.ext i0
    have hC := hC.ext i0
    have hO := hO.new i0 K7 (os_nodup o9) o9.fpl
    have hS := hS.ext i0
    refine x_p 7 (.slice u4 u5 u6) rfl (by kernel_rfl)  (fun _ => y_assign rfl) (fun _ => hS) (x_p 8 (.slice o6 o7 o8) rfl (by kernel_rfl)  (fun _ => y_assign rfl) (fun _ => hS) (x_one (i := 6) (by kernel_rfl) ?_))
    obtain ⟨D4, p0, K8, D5, g2, D6⟩ := new_block D3 [] 3
    refine xk_val (w' := D4) (b := false) (.slice (some ⟨p0, 0, none⟩) 0 0) rfl  (y_bslice rfl (by rw [K8, D5]; kernel_rfl)) rfl (fun _ => hS.ext g2) ?_
    have h0 := h0.ext g2
    have h1 := h1.ext g2
    have h2 := h2.ext g2
    have a0 := a0.cn g2
    have e8 := e8.ext g2
    have o9 := o9.ext g2
    have hC := hC.ext g2
    have hO := hO.new1 g2 D5 D6.lt
    have u7 := os_of_box (r := ri) (M := M) (css := []) (fps := []) (xs := ([] : List Int)) D6 trivial (Nat.zero_le _) (List.nodup_cons.2 ⟨(fun h => nomatch h), List.nodup_nil⟩)
    have u7 : (RT.os 3 ri).val M D4 (.slice (some ⟨p0, 0, none⟩) 0 0) [] [p0] := u7
    have hS := hS.ext g2
    refine x_p 9 (.slice (some ⟨p0, 0, none⟩) 0 0) rfl (by kernel_rfl)  (fun _ => y_assign rfl) (fun _ => hS) (x_end (by kernel_rfl) ?_)
    clear hS
    have hO := hO.fr3
    have hO := hO.fr2
    have hO := hO.fr3
    have hO := hO.fr3
    exact ⟨_, u4, o6, u6, o8, K5, D2, p0, u5, o7, fr_ovl 215 ⟨rfl, rfl, rfl, rfl, rfl, rfl, rfl, rfl, trivial⟩, hC, hO, h0, h1, h2, a0, o9, e8, u7⟩
   ·skip
    obtain ⟨u9, p1, K9, D7, i1, D8⟩ := new_block u3 [] 3
    refine xk_val (w' := u9) (b := false) (.slice (some ⟨p1, 0, none⟩) 0 0) rfl  (y_bslice rfl (by rw [K9, D7]; kernel_rfl)) rfl (fun _ => hS.ext i1) ?_
    have h0 := h0.ext i1
    have h1 := h1.ext i1
    have h2 := h2.ext i1
    have a0 := a0.cn i1
    have e8 := e8.ext i1
    have hC := hC.ext i1
    have hO := hO.new1 i1 D7 D8.lt
    have p2 := os_of_box (r := ri) (M := M) (css := []) (fps := []) (xs := ([] : List Int)) D8 trivial (Nat.zero_le _) (List.nodup_cons.2 ⟨(fun h => nomatch h), List.nodup_nil⟩)
    have p2 : (RT.os 3 ri).val M u9 (.slice (some ⟨p1, 0, none⟩) 0 0) [] [p1] := p2
    have hS := hS.ext i1
    refine x_one (i := 2) (by kernel_rfl) ?_
    obtain ⟨v0, v1, v2, L0, L1, L2, g3, L3, v3⟩ := mk_os (M := M) (w := u9) (r := (RT.os 3 ri)) Rw25 o0 (fun _ _ => (os_unval os_nil))
    refine xk_val (w' := L0) (b := false) (.slice v0 v1 v2) rfl  (y_make rfl rfl L2) rfl (fun _ => hS.ext g3) ?_
    have h0 := h0.ext g3
    have h1 := h1.ext g3
    have h2 := h2.ext g3
    have a0 := a0.cn g3
    have e8 := e8.ext g3
    have p2 := p2.ext g3
    have hC := hC.ext g3
    have hO := hO.new g3 L3 (os_nodup v3) v3.fpl
    have hS := hS.ext g3
    refine x_p 7 (.slice v0 v1 v2) rfl (by kernel_rfl)  (fun _ => y_assign rfl) (fun _ => hS) (x_p 8 (.slice o6 o7 o8) rfl (by kernel_rfl)  (fun _ => y_assign rfl) (fun _ => hS) (x_p 9 (.slice (some ⟨p1, 0, none⟩) 0 0) rfl (by kernel_rfl)  (fun _ => y_assign rfl) (fun _ => hS) (x_end (by kernel_rfl) ?_)))
    clear hS
    have hO := hO.fr3
    have hO := hO.fr1
    have hO := hO.fr3
    have hO := hO.fr3
    exact ⟨_, v0, o6, v2, o8, L1, D2, p1, v1, o7, fr_ovl 215 ⟨rfl, rfl, rfl, rfl, rfl, rfl, rfl, rfl, trivial⟩, hC, hO, h0, h1, h2, a0, v3, e8, p2⟩
  ·skip
   obtain ⟨q8, l5, L4, D9, k3, E0⟩ := new_block q4 [] 3
   refine xk_val (w' := q8) (b := false) (.slice (some ⟨l5, 0, none⟩) 0 0) rfl  (y_bslice rfl (by rw [L4, D9]; kernel_rfl)) rfl (fun _ => hS.ext k3) ?_
   have h0 := h0.ext k3
   have h1 := h1.ext k3
   have h2 := h2.ext k3
   have a0 := a0.cn k3
   have hC := hC.ext k3
   have hO := hO.new1 k3 D9 E0.lt
   have e9 := os_of_box (r := ri) (M := M) (css := []) (fps := []) (xs := ([] : List Int)) E0 trivial (Nat.zero_le _) (List.nodup_cons.2 ⟨(fun h => nomatch h), List.nodup_nil⟩)
   have e9 : (RT.os 3 ri).val M q8 (.slice (some ⟨l5, 0, none⟩) 0 0) [] [l5] := e9
   have hS := hS.ext k3
   refine x_two (i := 2) (j := 5) (by kernel_rfl) ?_ ?_
   ·skip
    obtain ⟨v4, v5, v6, E1, L5, L6, i2, L7, p3⟩ := mk_os (M := M) (w := q8) (r := (RT.os 3 ri)) Rw25 o0 (fun _ _ => (os_unval os_nil))
    refine xk_val (w' := E1) (b := false) (.slice v4 v5 v6) rfl  (y_make rfl rfl L6) rfl (fun _ => hS.ext i2) ?_
    have h0 := h0.ext i2
    have h1 := h1.ext i2
    have h2 := h2.ext i2
    have a0 := a0.cn i2
    have e9 := e9.ext i2
    have hC := hC.ext i2
    have hO := hO.new i2 L7 (os_nodup p3) p3.fpl
    have hS := hS.ext i2
    refine x_p 7 (.slice v4 v5 v6) rfl (by kernel_rfl)  (fun _ => y_assign rfl) (fun _ => hS) (x_one (i := 5) (by kernel_rfl) ?_)
    obtain ⟨v7, v8, v9, L8, L9, M0, g4, M1, w1⟩ := mk_os (M := M) (w := E1) (r := RT.bool) Rw111 o1 (fun _ _ => ⟨rfl, rfl⟩)
    refine xk_val (w' := L8) (b := false) (.slice v7 v8 v9) rfl  (y_make rfl rfl M0) rfl (fun _ => hS.ext g4) ?_
    have h0 := h0.ext g4
    have h1 := h1.ext g4
    have h2 := h2.ext g4
    have a0 := a0.cn g4
    have e9 := e9.ext g4
    have p3 := p3.ext g4
    have hC := hC.ext g4
    have hO := hO.new g4 M1 (os_nodup w1) w1.fpl
    have hS := hS.ext g4
    refine x_p 8 (.slice v7 v8 v9) rfl (by kernel_rfl)  (fun _ => y_assign rfl) (fun _ => hS) (x_p 9 (.slice (some ⟨l5, 0, none⟩) 0 0) rfl (by kernel_rfl)  (fun _ => y_assign rfl) (fun _ => hS) (x_end (by kernel_rfl) ?_))
    clear hS
    have hO := hO.fr3
    have hO := hO.fr2
    have hO := hO.fr2
    have hO := hO.fr3
    exact ⟨_, v4, v7, v6, v9, L5, L9, l5, v5, v8, fr_ovl 215 ⟨rfl, rfl, rfl, rfl, rfl, rfl, rfl, rfl, trivial⟩, hC, hO, h0, h1, h2, a0, p3, w1, e9⟩
   ·skip
    obtain ⟨w2, w3, w4, E2, M2, M3, i3, M4, p4⟩ := mk_os (M := M) (w := q8) (r := RT.bool) Rw111 o1 (fun _ _ => ⟨rfl, rfl⟩)
    refine xk_val (w' := E2) (b := false) (.slice w2 w3 w4) rfl  (y_make rfl rfl M3) rfl (fun _ => hS.ext i3) ?_
    have h0 := h0.ext i3
    have h1 := h1.ext i3
    have h2 := h2.ext i3
    have a0 := a0.cn i3
    have e9 := e9.ext i3
    have hC := hC.ext i3
    have hO := hO.new i3 M4 (os_nodup p4) p4.fpl
    have hS := hS.ext i3
    refine x_one (i := 2) (by kernel_rfl) ?_
    obtain ⟨w5, w6, w7, M5, M6, M7, g5, M8, w8⟩ := mk_os (M := M) (w := E2) (r := (RT.os 3 ri)) Rw25 o0 (fun _ _ => (os_unval os_nil))
    refine xk_val (w' := M5) (b := false) (.slice w5 w6 w7) rfl  (y_make rfl rfl M7) rfl (fun _ => hS.ext g5) ?_
    have h0 := h0.ext g5
    have h1 := h1.ext g5
    have h2 := h2.ext g5
    have a0 := a0.cn g5
    have e9 := e9.ext g5
    have p4 := p4.ext g5
    have hC := hC.ext g5
    have hO := hO.new g5 M8 (os_nodup w8) w8.fpl
    have hS := hS.ext g5
    refine x_p 7 (.slice w5 w6 w7) rfl (by kernel_rfl)  (fun _ => y_assign rfl) (fun _ => hS) (x_p 8 (.slice w2 w3 w4) rfl (by kernel_rfl)  (fun _ => y_assign rfl) (fun _ => hS) (x_p 9 (.slice (some ⟨l5, 0, none⟩) 0 0) rfl (by kernel_rfl)  (fun _ => y_assign rfl) (fun _ => hS) (x_end (by kernel_rfl) ?_)))
    clear hS
    have hO := hO.fr3
    have hO := hO.fr1
    have hO := hO.fr2
    have hO := hO.fr3
    exact ⟨_, w5, w2, w7, w4, M6, M2, l5, w6, w3, fr_ovl 215 ⟨rfl, rfl, rfl, rfl, rfl, rfl, rfl, rfl, trivial⟩, hC, hO, h0, h1, h2, a0, w8, p4, e9⟩
 rintro e1 f9 ⟨σ, a4, a8, a5, a9, q3, d3, b2, a6, b0, rfl, hC, hO, h0, h1, h2, a0, M9, b3, b4⟩
 refine c_seq (c_sr (ai rfl (c_nil ?_)))
 obtain ⟨o124, N0, hs⟩ := bind_some hs
 refine wp_block (wp_forC (id := 0) (gens.length : Int) (I := fun k122 s120 a c1 => ∃ (σ : Nat → Value) (k4 : List Nat), a = fr 215 (ovl σ [(1, (.int .i64 k)), (2, (.slice pa1 pn1 pc1)), (3, (.slice pa2 pn2 pc2)), (4, (pq a1 0)), (9, (.slice a4 a6 a5)), (10, (.slice a8 b0 a9)), (11, (.slice (some ⟨b2, 0, none⟩) 0 0)), (12, (.int .i64 k122))]) ∧ Chg [] w c1 ∧ Own (Nw w []) M c1 (([b2]) ++ (d3 ++ (k4 ++ (([a1]) ++ [])))) ∧ (RT.rs (RT.pr ri (RT.rs ri))).val M c1 (.slice pa0 pn0 pc0) a_.2 ([]) ∧ (RT.rs (RT.rs ri)).val M c1 (.slice pa1 pn1 pc1) gens ([]) ∧ (RT.rs (RT.rs ri)).val M c1 (.slice pa2 pn2 pc2) tuples ([]) ∧ BoxV c1 a1 35 [(.int .i64 a_.1), (.slice pa0 pn0 pc0)] ∧ (RT.os 43 (RT.os 3 ri)).val M c1 (.slice a4 a6 a5) s120 k4 ∧ (RT.os 4 RT.bool).val M c1 (.slice a8 b0 a9) y10 d3 ∧ (RT.os 3 ri).val M c1 (.slice (some ⟨b2, 0, none⟩) 0 0) ([]) ([b2])) (J := fun s120 a c1 => ∃ (σ : Nat → Value) (q9 : List Nat), a = fr 215 (ovl σ [(1, (.int .i64 k)), (3, (.slice pa2 pn2 pc2)), (4, (pq a1 0)), (9, (.slice a4 a6 a5)), (10, (.slice a8 b0 a9)), (11, (.slice (some ⟨b2, 0, none⟩) 0 0))]) ∧ Chg [] w c1 ∧ Own (Nw w []) M c1 (([b2]) ++ (d3 ++ (q9 ++ (([a1]) ++ [])))) ∧ (RT.rs (RT.pr ri (RT.rs ri))).val M c1 (.slice pa0 pn0 pc0) a_.2 ([]) ∧ (RT.rs (RT.rs ri)).val M c1 (.slice pa1 pn1 pc1) gens ([]) ∧ (RT.rs (RT.rs ri)).val M c1 (.slice pa2 pn2 pc2) tuples ([]) ∧ BoxV c1 a1 35 [(.int .i64 a_.1), (.slice pa0 pn0 pc0)] ∧ (RT.os 43 (RT.os 3 ri)).val M c1 (.slice a4 a6 a5) s120 q9 ∧ (RT.os 4 RT.bool).val M c1 (.slice a8 b0 a9) y10 d3 ∧ (RT.os 3 ri).val M c1 (.slice (some ⟨b2, 0, none⟩) 0 0) ([]) ([b2])) (K := (k_spec_l8Terms M w)) ?_ ?_ 0 y7 o124 _ _ ?_ N0 ?_)
 ·rintro k122 s120 a c1 ⟨σ, k4, rfl, hC, hO, h0, h1, h2, a0, f0, b3, b4⟩ hlt
  refine c_seq (c_sr (mi rfl (ms rfl (pl_val _ (y_len' Sl25 (rs_len h1) rfl) (pl_val _ (y_lss rfl rfl) (c_nil (c_condF (cb (decide_eq_false hlt)) (wp_exit ?_))))))))
  have hO := hO.fr3
  have hO := hO.fr3
  have hO := hO.fr3
  have hO := hO.fr3
  exact ⟨rfl, _, k4, fr_ovl 215 ⟨rfl, rfl, rfl, rfl, rfl, rfl, trivial⟩, hC, hO, h0, h1, h2, a0, f0, b3, b4⟩
 ·rintro k122 s120 o124 a c1 ⟨σ, k4, rfl, hC, hO, h0, h1, h2, a0, f0, b3, b4⟩ hlt hw hs
  refine c_seq (c_sr (mi rfl (ms rfl (pl_val _ (y_len' Sl25 (rs_len h1) rfl) (pl_val _ (y_lss rfl rfl) (c_nil (c_condT (cb (decide_eq_true hlt)) (wp_skip (c_seq (wp_block (c_sr (ms rfl (ms rfl (mi rfl ?_))))))))))))))
  obtain ⟨x128, N1, hs⟩ := bind_some hs
  obtain ⟨N2, N3, N4, w9⟩ := rs_idx Sl25 Sz43 h1 N1
  refine pl_val _ (N4 _ _ _ _ _ _ _ _ _ rfl rfl) ?_
  obtain ⟨a39, N5, r0⟩ := at_load Ag43 Sz43 (fun _ => rfl) w9
  obtain ⟨N6, N7, N8, rfl⟩ := rs_sl r0
  refine pl_val (.slice N6 N7 N8) (y_load rfl (N5 _ (Chg.refl _ _))) ?_
  obtain ⟨r133, N9, hs⟩ := bind_some hs
  refine pl_call Bd46 rfl (c_spec_l8Find (M := M) tuples x128 h2 r0 hO.fut N9) ?_
  rintro _ O0 ⟨rfl, f2⟩
  have h0 := h0.ext f2
  have h1 := h1.ext f2
  have h2 := h2.ext f2
  have a0 := a0.cn f2
  have f0 := f0.ext f2
  have b3 := b3.ext f2
  have b4 := b4.ext f2
  have r0 := r0.ext f2
  have w9 := at_ext w9 f2
  have hC := hC.ext f2
  have hO := hO.ext f2
  refine pl_val (.tuple #[(.int .i64 r133.1), (.bool r133.2)]) (y_move rfl) (pl_val (.int .i64 r133.1) (y_extract rfl (by kernel_rfl)) (pl_val (.bool r133.2) (y_extract rfl (by kernel_rfl)) (ai rfl (ab rfl (c_nil (c_sr (ms rfl (mi rfl ?_))))))))
  obtain ⟨x134, O1, hs⟩ := bind_some hs
  obtain ⟨O2, a40, a41, a42, O3, O4, O5⟩ := os_idx Sl25 Sz43 f0 O1
  have O6 := own_row (Frz.os Frz.int) O4 O5
  refine pl_val _ (O3 _ _ _ _ _ _ _ _ _ rfl rfl) ?_
  obtain ⟨a43, O7, hrow136, E3⟩ := at_load1 Ag43 Sz43 rfl rfl O6
  obtain ⟨O8, O9, P0, rfl⟩ := rs_sl E3
  refine pl_val (.slice O8 O9 P0) (y_load rfl (O7 _ (Chg.refl _ _))) (pl_val _ (y_len' Sl43 (rs_len E3) rfl) (pl_val (.bool ((x134.length : Int) == 0)) (y_eql rfl rfl) (c_nil ?_)))
  rcases bif_some hs with ⟨x0, hs⟩ | ⟨x0, hs⟩
  ·refine c_condT (cb x0) (c_region (ms rfl (mi rfl (mi rfl ?_))))
   obtain ⟨E4, m8, P1, E5, i4, E6⟩ := new_block O0 [(.int .i64 k122)] 3
   refine pl_val (w' := E4) (.slice (some ⟨m8, 0, none⟩) 1 1) (y_bslice rfl (by rw [P1, E5]; kernel_rfl)) ?_
   have h0 := h0.ext i4
   have h1 := h1.ext i4
   have h2 := h2.ext i4
   have a0 := a0.cn i4
   have f0 := f0.ext i4
   have b3 := b3.ext i4
   have b4 := b4.ext i4
   have hC := hC.ext i4
   have hO := hO.new1 i4 E5 E6.lt
   have x1 := os_of_box (r := ri) (M := M) (css := [[(.int .i64 k122)]]) (fps := [([] : List Nat)]) (xs := ([k122] : List Int)) E6 ⟨⟨rfl, rfl⟩, trivial⟩ (Nat.le_of_ble_eq_true rfl) (List.nodup_cons.2 ⟨(fun h => nomatch h), List.nodup_nil⟩)
   have x1 : (RT.os 3 ri).val M E4 (.slice (some ⟨m8, 0, none⟩) 1 1) [k122] [m8] := x1
   obtain ⟨x141, P2, hs⟩ := bind_some hs
   obtain ⟨E7, a44, E8, P3, P4, P5, P6⟩ := os_idx Sl25 Sz43 f0 P2
   have a45 := own_row (Frz.os Frz.int) P5 P6
   refine pl_val _ (P4 _ _ _ _ _ _ _ _ _ rfl rfl) ?_
   have hO := hO.fr3
   obtain ⟨P7, P8, P9, k5, Q0, x2⟩ := os_store (P := Try.prog) (c' := [(.slice (some ⟨m8, 0, none⟩) 1 1)]) E8 f0 P3 (fun g hg => hO.inM g (os_block f0 g (by simpa using hg))) (os_unval x1) (hO.drop.perm (R := ([m8]) ++ (([b2]) ++ (d3 ++ (([a1]) ++ ([]))))) (by simp)).nd (fun g hg hq => hO.apart g hq (by simp only [List.mem_append, List.not_mem_nil, false_or, or_false] at hg ⊢; simp [hg])) (fun _ h => .inl h)
   have l6 : ∀ q ∈ [E7], q ∈ k4 := fun q hq => os_block f0 q (by rw [E8]; exact hq)
   refine pl_skip (w' := P7) (ys_store rfl rfl (P9 _ _ rfl Sz43)) ?_
   have hO := hO.fr1
   have hO := hO.fr1
   have h0 := h0.mt k5 hO l6
   have h1 := h1.mt k5 hO l6
   have h2 := h2.mt k5 hO l6
   have a0 := a0.ap k5 hO l6 (mem_r (mem_r (mem_r (mem_l (List.mem_singleton.2 rfl)))))
   have b3 := b3.ma k5 hO l6 (fun _ e => (mem_r (mem_r (mem_l (e)))))
   have b4 := b4.ma k5 hO l6 (fun _ e => (mem_r (mem_l (e))))
   have hC := hC.st k5 hO l6
   have hO := hO.perm (R := k4 ++ (([m8]) ++ (([b2]) ++ (d3 ++ (([a1]) ++ ([])))))) (by simp)
   have hO := hO.eat k5 (fun q hq => (Q0 q hq).elim .inl (fun h => .inr (.inl h))) (os_nodup x2) x2.fpl
   refine c_nil (c_region (mi rfl (pl_val (.int .i64 (w64 (k122 + 1))) (y_add rfl rfl) (ai rfl (c_nil ?_)))))
   cases hs
   have hO := hO.fr3
   have hO := hO.fr1
   have hO := hO.fr3
   have hO := hO.fr3
   exact ⟨_, P8, fr_ovl 215 ⟨rfl, rfl, rfl, rfl, rfl, rfl, rfl, congrArg (Value.int .i64) hw, trivial⟩, hC, hO, h0, h1, h2, a0, x2, b3, b4⟩
  refine c_condF (cb x0) (wp_skip (c_region (mi rfl (pl_val (.int .i64 (w64 (k122 + 1))) (y_add rfl rfl) (ai rfl (c_nil ?_))))))
  cases hs
  have hO := hO.fr3
  have hO := hO.fr3
  have hO := hO.fr3
  have hO := hO.fr3
  exact ⟨_, k4, fr_ovl 215 ⟨rfl, rfl, rfl, rfl, rfl, rfl, rfl, congrArg (Value.int .i64) hw, trivial⟩, hC, hO, h0, h1, h2, a0, f0, b3, b4⟩
 ·skip
  have hO := hO.fr3
  have hO := hO.fr3
  have hO := hO.fr3
  have hO := hO.fr3
  exact ⟨_, q3, fr_ovl 215 ⟨rfl, rfl, rfl, rfl, rfl, rfl, rfl, rfl, trivial⟩, hC, hO, h0, h1, h2, a0, M9, b3, b4⟩
 cases o124 with
 | nx _ => exact True.intro
 | rt r_ =>
  have hs := after_rt hs
  intro e1 l3 hK
  cases hs
  exact hK
 | br s120 =>
  have hs := after_br hs
  rintro e1 c1 ⟨σ, q9, rfl, hC, hO, h0, h1, h2, a0, Q1, b3, b4⟩
  refine c_seq (c_sr (ai rfl (c_nil ?_)))
  obtain ⟨o175, Q2, hs⟩ := bind_some hs
  refine wp_block (wp_forC (id := 2) (a_.2.length : Int) (I := fun k173 s171 a c3 => ∃ (σ : Nat → Value) (i5 : List Nat), a = fr 215 (ovl σ [(1, (.int .i64 k)), (3, (.slice pa2 pn2 pc2)), (4, (pq a1 0)), (9, (.slice a4 a6 a5)), (10, (.slice a8 b0 a9)), (11, (.slice (some ⟨b2, 0, none⟩) 0 0)), (15, (.int .i64 k173))]) ∧ Chg [] w c3 ∧ Own (Nw w []) M c3 (([b2]) ++ (d3 ++ (i5 ++ (([a1]) ++ [])))) ∧ (RT.rs (RT.pr ri (RT.rs ri))).val M c3 (.slice pa0 pn0 pc0) a_.2 ([]) ∧ (RT.rs (RT.rs ri)).val M c3 (.slice pa2 pn2 pc2) tuples ([]) ∧ BoxV c3 a1 35 [(.int .i64 a_.1), (.slice pa0 pn0 pc0)] ∧ (RT.os 43 (RT.os 3 ri)).val M c3 (.slice a4 a6 a5) s171 i5 ∧ (RT.os 4 RT.bool).val M c3 (.slice a8 b0 a9) y10 d3 ∧ (RT.os 3 ri).val M c3 (.slice (some ⟨b2, 0, none⟩) 0 0) ([]) ([b2])) (J := fun s171 a c3 => ∃ (σ : Nat → Value) (r1 : List Nat), a = fr 215 (ovl σ [(1, (.int .i64 k)), (3, (.slice pa2 pn2 pc2)), (4, (pq a1 0)), (9, (.slice a4 a6 a5)), (10, (.slice a8 b0 a9)), (11, (.slice (some ⟨b2, 0, none⟩) 0 0))]) ∧ Chg [] w c3 ∧ Own (Nw w []) M c3 (([b2]) ++ (d3 ++ (r1 ++ (([a1]) ++ [])))) ∧ (RT.rs (RT.pr ri (RT.rs ri))).val M c3 (.slice pa0 pn0 pc0) a_.2 ([]) ∧ (RT.rs (RT.rs ri)).val M c3 (.slice pa2 pn2 pc2) tuples ([]) ∧ BoxV c3 a1 35 [(.int .i64 a_.1), (.slice pa0 pn0 pc0)] ∧ (RT.os 43 (RT.os 3 ri)).val M c3 (.slice a4 a6 a5) s171 r1 ∧ (RT.os 4 RT.bool).val M c3 (.slice a8 b0 a9) y10 d3 ∧ (RT.os 3 ri).val M c3 (.slice (some ⟨b2, 0, none⟩) 0 0) ([]) ([b2])) (K := (k_spec_l8Terms M w)) ?_ ?_ 0 s120 o175 _ _ ?_ Q2 ?_)
  ·rintro k173 s171 a c3 ⟨σ, i5, rfl, hC, hO, h0, h2, a0, g6, b3, b4⟩ hlt
   refine c_seq (c_sr (mi rfl (pl_val (pq a1 1) (y_faddr rfl Fa35x1) (pl_val (.slice pa0 pn0 pc0) (y_load rfl ((box_load Ag33 Sz33 a0 [(.int .i64 a_.1)] [(.slice pa0 pn0 pc0)] [] rfl rfl (fun _ => rfl)) _ (Chg.refl _ _))) (pl_val _ (y_len' Sl33 (rs_len h0) rfl) (pl_val _ (y_lss rfl rfl) (c_nil (c_condF (cb (decide_eq_false hlt)) (wp_exit ?_)))))))))
   have hO := hO.fr3
   have hO := hO.fr3
   have hO := hO.fr3
   have hO := hO.fr3
   exact ⟨rfl, _, i5, fr_ovl 215 ⟨rfl, rfl, rfl, rfl, rfl, rfl, trivial⟩, hC, hO, h0, h2, a0, g6, b3, b4⟩
  ·rintro k173 s171 o175 a c3 ⟨σ, i5, rfl, hC, hO, h0, h2, a0, g6, b3, b4⟩ hlt hw hs
   refine c_seq (c_sr (mi rfl (pl_val (pq a1 1) (y_faddr rfl Fa35x1) (pl_val (.slice pa0 pn0 pc0) (y_load rfl ((box_load Ag33 Sz33 a0 [(.int .i64 a_.1)] [(.slice pa0 pn0 pc0)] [] rfl rfl (fun _ => rfl)) _ (Chg.refl _ _))) (pl_val _ (y_len' Sl33 (rs_len h0) rfl) (pl_val _ (y_lss rfl rfl) (c_nil (c_condT (cb (decide_eq_true hlt)) (wp_skip (c_seq (wp_block (c_sr (pl_val (pq a1 1) (y_faddr rfl Fa35x1) (pl_val (.slice pa0 pn0 pc0) (y_load rfl ((box_load Ag33 Sz33 a0 [(.int .i64 a_.1)] [(.slice pa0 pn0 pc0)] [] rfl rfl (fun _ => rfl)) _ (Chg.refl _ _))) (mi rfl ?_)))))))))))))))
   obtain ⟨x179, Q3, hs⟩ := bind_some hs
   obtain ⟨E9, F0, Q4, Q5⟩ := rs_idx Sl33 Sz89 h0 Q3
   refine pl_val _ (Q4 _ _ _ _ _ _ _ _ _ rfl rfl) ?_
   obtain ⟨Q6, _⟩ := pr_at Q5
   refine pl_val (.pointer (some ⟨E9, F0 + 0, none⟩)) (y_faddr rfl Fa89x0) (pl_val (.int .i64 x179.1) (y_load rfl ((at_load_int Ag3 Sz3 Q6) _ (Chg.refl _ _))) (pl_val (.bool (x179.1 == 0)) (y_eql rfl rfl) (c_nil ?_)))
   rcases bif_some hs with ⟨x3, hs⟩ | ⟨x3, hs⟩
   ·refine c_condT (cb x3) (c_region (ms rfl (ms rfl (pl_val (.agg #[(.int .i64 a_.1), (.slice pa0 pn0 pc0)]) (y_load rfl ((box_load Ag35 Sz35 a0 [] [(.int .i64 a_.1), (.slice pa0 pn0 pc0)] [] rfl rfl (fun h => nomatch h)) _ (Chg.refl _ _))) (mi rfl ?_)))))
    obtain ⟨F1, k6, Q7, F2, k7, F3⟩ := new_block c3 [] 43
    refine pl_val (w' := F1) (.slice (some ⟨k6, 0, none⟩) 0 0) (y_bslice rfl (by rw [Q7, F2]; kernel_rfl)) ?_
    have h0 := h0.ext k7
    have h2 := h2.ext k7
    have a0 := a0.cn k7
    have g6 := g6.ext k7
    have b3 := b3.ext k7
    have b4 := b4.ext k7
    have hC := hC.ext k7
    have hO := hO.new1 k7 F2 F3.lt
    have i6 := os_of_box (r := (RT.os 3 ri)) (M := M) (css := []) (fps := []) (xs := ([] : List (List Int))) F3 trivial (Nat.zero_le _) (List.nodup_cons.2 ⟨(fun h => nomatch h), List.nodup_nil⟩)
    have i6 : (RT.os 43 (RT.os 3 ri)).val M F1 (.slice (some ⟨k6, 0, none⟩) 0 0) [] [k6] := i6
    refine mi rfl ?_
    obtain ⟨r186, Q8, hs⟩ := bind_some hs
    refine pl_call Bd70 rfl (c_spec_l8Apply (M := (Less M ([k6]))) (a_.1, a_.2) k173 ([]) k (h0.sub Less.sub) (((Frz.os (Frz.os Frz.int))).val i6 Less.sub Less.not) hO.less.fut Q8) ?_
    rintro _ Q9 ⟨a46, a47, a48, r2, rfl, i7, l7, R0⟩
    have h0 := h0.ext i7
    have h2 := h2.ext i7
    have a0 := a0.cn i7
    have g6 := g6.ext i7
    have b3 := b3.ext i7
    have b4 := b4.ext i7
    have i6 := i6.ext i7
    have hC := hC.ext i7
    have hO := Own.join0 hO i7 R0
    have hO := hO.perm (R := r2 ++ (([k6]) ++ (([b2]) ++ (d3 ++ (i5 ++ (([a1]) ++ ([]))))))) (by simp)
    have l7 := l7.free (M' := M) (Free.os Free.int)
    refine mi rfl (pl_val (.int .i64 (w64 ((-1) - k173))) (y_sub rfl rfl) ?_)
    obtain ⟨F4, p5, R1, F5, g7, F6⟩ := new_block Q9 [(.int .i64 (w64 ((-1) - k173)))] 3
    refine pl_val (w' := F4) (.slice (some ⟨p5, 0, none⟩) 1 1) (y_bslice rfl (by rw [R1, F5]; kernel_rfl)) ?_
    have h0 := h0.ext g7
    have h2 := h2.ext g7
    have a0 := a0.cn g7
    have g6 := g6.ext g7
    have b3 := b3.ext g7
    have b4 := b4.ext g7
    have i6 := i6.ext g7
    have l7 := l7.ext g7
    have hC := hC.ext g7
    have hO := hO.new1 g7 F5 F6.lt
    have x4 := os_of_box (r := ri) (M := M) (css := [[(.int .i64 (w64 ((-1) - k173)))]]) (fps := [([] : List Nat)]) (xs := ([w64 ((-1) - k173)] : List Int)) F6 ⟨⟨rfl, rfl⟩, trivial⟩ (Nat.le_of_ble_eq_true rfl) (List.nodup_cons.2 ⟨(fun h => nomatch h), List.nodup_nil⟩)
    have x4 : (RT.os 3 ri).val M F4 (.slice (some ⟨p5, 0, none⟩) 1 1) [w64 ((-1) - k173)] [p5] := x4
    have hO := hO.fr1
    have hO := hO.fr1
    have hO := hO.fr5
    have x5 := hO
    have x5 := x5.fr2
    have F7 := Own.lend (F := (i5 ++ (([p5]) ++ ([])))) (R := ([k6]) ++ (([b2]) ++ (d3 ++ (([a1]) ++ ([]))))) (Own.perm (x5.less) (by simp))
    obtain ⟨r191, R2, hs⟩ := bind_some hs
    refine pl_call Bd94 rfl (c_spec_l8Better__take3 (M := (Less M r2)) s171 tuples r186 ([w64 ((-1) - k173)]) (g6.sub Less.sub) (h2.sub Less.sub) (((Frz.os Frz.int)).val l7 Less.sub Less.not) (x4.sub Less.sub) F7 F7.fut R2) ?_
    rintro _ a49 ⟨F8, rfl, i9, x6, R3⟩
    have hO := hO.fr2
    have hO := hO.fr2
    have hO := hO.fr2
    have hO := hO.perm (R := (i5 ++ (([p5]) ++ ([]))) ++ (r2 ++ (([k6]) ++ (([b2]) ++ (d3 ++ (([a1]) ++ ([]))))))) (by simp)
    have h0 := h0.mt i9 hO same_
    have h2 := h2.mt i9 hO same_
    have a0 := a0.ap i9 hO same_ (mem_r (mem_r (mem_r (mem_r (mem_l (List.mem_singleton.2 rfl))))))
    have b3 := b3.ma i9 hO same_ (fun _ e => (mem_r (mem_r (mem_r (mem_l (e))))))
    have b4 := b4.ma i9 hO same_ (fun _ e => (mem_r (mem_r (mem_l (e)))))
    have i6 := i6.ma i9 hO same_ (fun _ e => (mem_r (mem_l (e))))
    have l7 := l7.ma i9 hO same_ (fun _ e => (mem_l (e)))
    have hC := hC.st i9 hO same_
    have hO := Own.join hO i9 R3
    have hO := hO.perm (R := F8 ++ (r2 ++ (([k6]) ++ (([b2]) ++ (d3 ++ (([a1]) ++ ([]))))))) (by simp)
    have x6 := x6.free (M' := M) (Free.os (Free.os Free.int))
    refine c_nil (c_region (mi rfl (pl_val (.int .i64 (w64 (k173 + 1))) (y_add rfl rfl) (ai rfl (c_nil ?_)))))
    cases hs
    have hO := hO.fr1
    have hO := hO.drop
    have hO := hO.fr1
    have hO := hO.drop
    have hO := hO.fr3
    have hO := hO.fr1
    have hO := hO.fr3
    have hO := hO.fr3
    exact ⟨_, F8, fr_ovl 215 ⟨rfl, rfl, rfl, rfl, rfl, rfl, congrArg (Value.int .i64) hw, trivial⟩, hC, hO, h0, h2, a0, x6, b3, b4⟩
   refine c_condF (cb x3) (wp_skip (c_region (mi rfl (pl_val (.int .i64 (w64 (k173 + 1))) (y_add rfl rfl) (ai rfl (c_nil ?_))))))
   cases hs
   have hO := hO.fr3
   have hO := hO.fr3
   have hO := hO.fr3
   have hO := hO.fr3
   exact ⟨_, i5, fr_ovl 215 ⟨rfl, rfl, rfl, rfl, rfl, rfl, congrArg (Value.int .i64) hw, trivial⟩, hC, hO, h0, h2, a0, g6, b3, b4⟩
  ·skip
   have hO := hO.fr3
   have hO := hO.fr3
   have hO := hO.fr3
   have hO := hO.fr3
   exact ⟨_, q9, fr_ovl 215 ⟨rfl, rfl, rfl, rfl, rfl, rfl, rfl, trivial⟩, hC, hO, h0, h2, a0, Q1, b3, b4⟩
  cases o175 with
  | nx _ => exact True.intro
  | rt r_ =>
   have hs := after_rt hs
   intro e1 l3 hK
   cases hs
   exact hK
  | br s171 =>
   have hs := after_br hs
   rintro e1 c3 ⟨σ, r1, rfl, hC, hO, h0, h2, a0, R4, b3, b4⟩
   obtain ⟨o3257, R5, hs⟩ := bind_some hs
   refine wp_block (wp_iter (id := 4) (I := fun s3253 a d4 => ∃ (σ : Nat → Value) (b9 : Nat → Prop) (j0 : Option Addr) (j1 : Nat) (j2 : Nat) (l8 : List Nat) (g8 : List Nat) (k8 : List Nat), a = fr 215 (ovl σ [(1, (.int .i64 k)), (3, (.slice pa2 pn2 pc2)), (4, (pq a1 0)), (9, (.slice a4 a6 a5)), (10, (.slice a8 b0 a9)), (11, (.slice j0 j1 j2))]) ∧ Chg [] w d4 ∧ Own (Nw w []) b9 d4 (l8 ++ (k8 ++ (g8 ++ (([a1]) ++ [])))) ∧ Keeps w M b9 ∧ (RT.rs (RT.pr ri (RT.rs ri))).val b9 d4 (.slice pa0 pn0 pc0) a_.2 ([]) ∧ (RT.rs (RT.rs ri)).val b9 d4 (.slice pa2 pn2 pc2) tuples ([]) ∧ BoxV d4 a1 35 [(.int .i64 a_.1), (.slice pa0 pn0 pc0)] ∧ (RT.os 43 (RT.os 3 ri)).val b9 d4 (.slice a4 a6 a5) s3253.2.1 g8 ∧ (RT.os 4 RT.bool).val b9 d4 (.slice a8 b0 a9) s3253.2.2 k8 ∧ (RT.os 3 ri).val b9 d4 (.slice j0 j1 j2) s3253.1 l8) (J := fun s3253 a d4 => ∃ (σ : Nat → Value) (l9 : Nat → Prop) (R6 : Option Addr) (R7 : Nat) (R8 : Nat) (F9 : List Nat) (G0 : List Nat) (G1 : List Nat), a = fr 215 (ovl σ []) ∧ Chg [] w d4 ∧ Own (Nw w []) l9 d4 (F9 ++ (G1 ++ (G0 ++ (([a1]) ++ [])))) ∧ Keeps w M l9 ∧ (RT.rs (RT.pr ri (RT.rs ri))).val l9 d4 (.slice pa0 pn0 pc0) a_.2 ([]) ∧ (RT.rs (RT.rs ri)).val l9 d4 (.slice pa2 pn2 pc2) tuples ([]) ∧ BoxV d4 a1 35 [(.int .i64 a_.1), (.slice pa0 pn0 pc0)] ∧ (RT.os 43 (RT.os 3 ri)).val l9 d4 (.slice a4 a6 a5) s3253.2.1 G0 ∧ (RT.os 4 RT.bool).val l9 d4 (.slice a8 b0 a9) s3253.2.2 G1 ∧ (RT.os 3 ri).val l9 d4 (.slice R6 R7 R8) s3253.1 F9) (K := (k_spec_l8Terms M w)) ?_ FU ([], s171, y10) o3257 _ _ ?_ R5 ?_)
   ·rintro s3253 o3257 a d4 ⟨σ, b9, j0, j1, j2, l8, g8, k8, rfl, hC, hO, hK, h0, h2, a0, b6, d5, d1⟩ hs
    refine wp_block (c_sr (ai rfl (c_nil (c_seq (c_sr (ai rfl (c_nil ?_)))))))
    obtain ⟨o3297, R9, hs⟩ := bind_some hs
    refine wp_block (wp_forC (id := 6) (s3253.2.1.length : Int) (I := fun k3295 s3293 a c0 => ∃ (σ : Nat → Value), a = fr 215 (ovl σ [(1, (.int .i64 k)), (3, (.slice pa2 pn2 pc2)), (4, (pq a1 0)), (9, (.slice a4 a6 a5)), (10, (.slice a8 b0 a9)), (11, (.slice j0 j1 j2)), (16, (.int .i64 s3293)), (17, (.int .i64 k3295))]) ∧ Chg [] w c0 ∧ Own (Nw w []) b9 c0 (l8 ++ (k8 ++ (g8 ++ (([a1]) ++ [])))) ∧ (RT.rs (RT.pr ri (RT.rs ri))).val b9 c0 (.slice pa0 pn0 pc0) a_.2 ([]) ∧ (RT.rs (RT.rs ri)).val b9 c0 (.slice pa2 pn2 pc2) tuples ([]) ∧ BoxV c0 a1 35 [(.int .i64 a_.1), (.slice pa0 pn0 pc0)] ∧ (RT.os 43 (RT.os 3 ri)).val b9 c0 (.slice a4 a6 a5) s3253.2.1 g8 ∧ (RT.os 4 RT.bool).val b9 c0 (.slice a8 b0 a9) s3253.2.2 k8 ∧ (RT.os 3 ri).val b9 c0 (.slice j0 j1 j2) s3253.1 l8) (J := fun s3293 a c0 => ∃ (σ : Nat → Value), a = fr 215 (ovl σ [(1, (.int .i64 k)), (3, (.slice pa2 pn2 pc2)), (4, (pq a1 0)), (9, (.slice a4 a6 a5)), (10, (.slice a8 b0 a9)), (11, (.slice j0 j1 j2)), (16, (.int .i64 s3293))]) ∧ Chg [] w c0 ∧ Own (Nw w []) b9 c0 (l8 ++ (k8 ++ (g8 ++ (([a1]) ++ [])))) ∧ (RT.rs (RT.pr ri (RT.rs ri))).val b9 c0 (.slice pa0 pn0 pc0) a_.2 ([]) ∧ (RT.rs (RT.rs ri)).val b9 c0 (.slice pa2 pn2 pc2) tuples ([]) ∧ BoxV c0 a1 35 [(.int .i64 a_.1), (.slice pa0 pn0 pc0)] ∧ (RT.os 43 (RT.os 3 ri)).val b9 c0 (.slice a4 a6 a5) s3253.2.1 g8 ∧ (RT.os 4 RT.bool).val b9 c0 (.slice a8 b0 a9) s3253.2.2 k8 ∧ (RT.os 3 ri).val b9 c0 (.slice j0 j1 j2) s3253.1 l8) (K := (k_spec_l8Terms M w)) ?_ ?_ 0 (-1) o3297 _ _ ?_ R9 ?_)
    ·rintro k3295 s3293 a c0 ⟨σ, rfl, hC, hO, h0, h2, a0, b6, d5, d1⟩ hlt
     refine c_seq (c_sr (mi rfl (ms rfl (pl_val _ (y_len' Sl25 (os_len b6) rfl) (pl_val _ (y_lss rfl rfl) (c_nil (c_condF (cb (decide_eq_false hlt)) (wp_exit ?_))))))))
     have hO := hO.fr3
     have hO := hO.fr3
     have hO := hO.fr3
     have hO := hO.fr3
     exact ⟨rfl, _, fr_ovl 215 ⟨rfl, rfl, rfl, rfl, rfl, rfl, rfl, trivial⟩, hC, hO, h0, h2, a0, b6, d5, d1⟩
    ·rintro k3295 s3293 o3297 a c0 ⟨σ, rfl, hC, hO, h0, h2, a0, b6, d5, d1⟩ hlt hw hs
     refine c_seq (c_sr (mi rfl (ms rfl (pl_val _ (y_len' Sl25 (os_len b6) rfl) (pl_val _ (y_lss rfl rfl) (c_nil (c_condT (cb (decide_eq_true hlt)) (wp_skip (c_seq (wp_block (c_seq ?_)))))))))))
     obtain ⟨s3299, S0, hs⟩ := bind_some hs
     refine c_mid (I := fun a G2 => ∃ (σ : Nat → Value), a = fr 215 (ovl σ [(1, (.int .i64 k)), (3, (.slice pa2 pn2 pc2)), (4, (pq a1 0)), (9, (.slice a4 a6 a5)), (10, (.slice a8 b0 a9)), (11, (.slice j0 j1 j2)), (16, (.int .i64 s3293)), (17, (.int .i64 k3295)), (116, (.bool s3299))]) ∧ Chg [] c0 G2) ?_ ?_
     ·replace hs := S0
      have hMid := Chg.refl [] c0
      refine x_start [] Mx rfl ?_
      have g9 := Chg.drew c0
      generalize World.drew c0 = S1 at g9 ⊢
      have h0 := h0.ext g9
      have h2 := h2.ext g9
      have a0 := a0.cn g9
      have b6 := b6.ext g9
      have d5 := d5.ext g9
      have d1 := d1.ext g9
      have hMid := hMid.ext g9
      have hC := hC.ext g9
      have hO := hO.ext g9
      have hS := Chg.refl [] S1
      refine x_p 0 (.slice a8 b0 a9) rfl (by kernel_rfl)  (fun _ => y_move rfl) (fun _ => hS) (x_p 1 (.int .i64 k3295) rfl (by kernel_rfl)  (fun _ => y_move rfl) (fun _ => hS) ?_)
      obtain ⟨x3303, S2, hs⟩ := bind_some hs
      obtain ⟨S3, a50, a51, a52, S4, x7, a53⟩ := os_idx Sl111 Sz4 d5 S2
      refine x_p 2 (.pointer (some ⟨S3, 0 + Int.toNat k3295 * 1, none⟩)) rfl (by kernel_rfl)  (fun _ => S4 _ _ _ _ _ _ _ _ _ rfl rfl) (fun _ => hS) (x_l 3 (.bool x3303) rfl (by kernel_rfl)  (fun w' hw' => y_load rfl ((at_load_bool Ag4 Sz4 x7) w' hw')) hS (x_p 4 (.bool (!x3303)) rfl (by kernel_rfl)  (fun _ => y_not rfl) (fun _ => hS) (x_p 5 (.bool (!x3303)) rfl (by kernel_rfl)  (fun _ => y_move rfl) (fun _ => hS) ?_)))
      rcases bif_some hs with ⟨e2, hs⟩ | ⟨e2, hs⟩
      ·skip
       refine x_py 6 (.slice a4 a6 a5) rfl (by kernel_rfl) (tg := 94) (by kernel_rfl) (cb e2) (fun _ => y_move rfl) (fun _ => hS) (x_py 7 (.int .i64 k3295) rfl (by kernel_rfl) (tg := 94) (by kernel_rfl) (cb e2) (fun _ => y_move rfl) (fun _ => hS) ?_)
       obtain ⟨x3306, S5, hs⟩ := bind_some hs
       obtain ⟨S6, a54, a55, a56, S7, x8, S8⟩ := os_idx Sl25 Sz43 b6 S5
       have x9 := own_row (Frz.os Frz.int) x8 S8
       refine x_py 8 (.pointer (some ⟨S6, 0 + Int.toNat k3295 * 1, none⟩)) rfl (by kernel_rfl) (tg := 94) (by kernel_rfl) (cb e2) (fun _ => S7 _ _ _ _ _ _ _ _ _ rfl rfl) (fun _ => hS) ?_
       obtain ⟨a57, S9, hrow3308, r3⟩ := at_load1 Ag43 Sz43 rfl rfl x9
       obtain ⟨T0, T1, T2, rfl⟩ := rs_sl r3
       refine x_ly 9 (.slice T0 T1 T2) rfl (by kernel_rfl) (tg := 94) (by kernel_rfl) (cb e2) (fun w' hw' => y_load rfl (S9 w' hw')) hS (x_py 10 (.int .i64 (x3306.length : Int)) rfl (by kernel_rfl) (tg := 94) (by kernel_rfl) (cb e2) (fun _ => y_len' Sl43 (rs_len r3) rfl) (fun _ => hS) (x_py 11 (.bool (decide (0 < (x3306.length : Int)))) rfl (by kernel_rfl) (tg := 94) (by kernel_rfl) (cb e2) (fun _ => y_gtr rfl rfl) (fun _ => hS) (x_p 12 (.bool (decide (0 < (x3306.length : Int)))) rfl (by kernel_rfl)  (fun _ => y_pick_t (cb e2) rfl) (fun _ => hS) (x_p 13 (.bool (decide (0 < (x3306.length : Int)))) rfl (by kernel_rfl)  (fun _ => y_move rfl) (fun _ => hS) ?_))))
       rcases bif_some hs with ⟨e6, hs⟩ | ⟨e6, hs⟩
       ·skip
        refine x_py 14 (.int .i64 s3293) rfl (by kernel_rfl) (tg := 102) (by kernel_rfl) (cb e6) (fun _ => y_move rfl) (fun _ => hS) (x_py 15 (.bool (decide (s3293 < 0))) rfl (by kernel_rfl) (tg := 102) (by kernel_rfl) (cb e6) (fun _ => y_lss rfl rfl) (fun _ => hS) (x_py 16 (.bool (decide (s3293 < 0))) rfl (by kernel_rfl) (tg := 102) (by kernel_rfl) (cb e6) (fun _ => y_move rfl) (fun _ => hS) ?_))
        rcases bif_some hs with ⟨c4, hs⟩ | ⟨c4, hs⟩
        ·skip
         refine x_pn 17 rfl (by kernel_rfl) (tg := 105) (by kernel_rfl) (cb c4) (fun _ => hS) (x_pn 18 rfl (by kernel_rfl) (tg := 105) (by kernel_rfl) (cb c4) (fun _ => hS) (x_pn 19 rfl (by kernel_rfl) (tg := 105) (by kernel_rfl) (cb c4) (fun _ => hS) (x_pn 20 rfl (by kernel_rfl) (tg := 105) (by kernel_rfl) (cb c4) (fun _ => hS) (x_pn 21 rfl (by kernel_rfl) (tg := 105) (by kernel_rfl) (cb c4) (fun _ => hS) (x_pn 22 rfl (by kernel_rfl) (tg := 105) (by kernel_rfl) (cb c4) (fun _ => hS) (x_pn 23 rfl (by kernel_rfl) (tg := 105) (by kernel_rfl) (cb c4) (fun _ => hS) (x_pn 24 rfl (by kernel_rfl) (tg := 105) (by kernel_rfl) (cb c4) (fun _ => hS) (x_pn 25 rfl (by kernel_rfl) (tg := 105) (by kernel_rfl) (cb c4) (fun _ => hS) (x_py 26 (.bool true) rfl (by kernel_rfl) (tg := 102) (by kernel_rfl) (cb e6) (fun _ => y_pick_t (cb c4) rfl) (fun _ => hS) (x_p 27 (.bool true) rfl (by kernel_rfl)  (fun _ => y_pick_t (cb e6) rfl) (fun _ => hS) (x_end (by kernel_rfl) ?_)))))))))))
         clear hS
         cases hs
         exact ⟨_, fr_ovl 215 ⟨rfl, rfl, rfl, rfl, rfl, rfl, rfl, rfl, rfl, trivial⟩, hMid⟩
        refine x_py 17 (.slice a4 a6 a5) rfl (by kernel_rfl) (tg := 105) (by kernel_rfl) (cb c4) (fun _ => y_move rfl) (fun _ => hS) (x_py 18 (.int .i64 k3295) rfl (by kernel_rfl) (tg := 105) (by kernel_rfl) (cb c4) (fun _ => y_move rfl) (fun _ => hS) ?_)
        obtain ⟨x3312, T3, hs⟩ := bind_some hs
        obtain ⟨T4, a58, a59, a60, T5, y0, T6⟩ := os_idx Sl25 Sz43 b6 T3
        have y1 := own_row (Frz.os Frz.int) y0 T6
        refine x_py 19 (.pointer (some ⟨T4, 0 + Int.toNat k3295 * 1, none⟩)) rfl (by kernel_rfl) (tg := 105) (by kernel_rfl) (cb c4) (fun _ => T5 _ _ _ _ _ _ _ _ _ rfl rfl) (fun _ => hS) ?_
        obtain ⟨a61, T7, hrow3314, r4⟩ := at_load1 Ag43 Sz43 rfl rfl y1
        obtain ⟨T8, T9, U0, rfl⟩ := rs_sl r4
        refine x_ly 20 (.slice T8 T9 U0) rfl (by kernel_rfl) (tg := 105) (by kernel_rfl) (cb c4) (fun w' hw' => y_load rfl (T7 w' hw')) hS (x_py 21 (.slice a4 a6 a5) rfl (by kernel_rfl) (tg := 105) (by kernel_rfl) (cb c4) (fun _ => y_move rfl) (fun _ => hS) (x_py 22 (.int .i64 s3293) rfl (by kernel_rfl) (tg := 105) (by kernel_rfl) (cb c4) (fun _ => y_move rfl) (fun _ => hS) ?_))
        obtain ⟨x3316, U1, hs⟩ := bind_some hs
        obtain ⟨U2, a62, a63, a64, U3, y2, U4⟩ := os_idx Sl25 Sz43 b6 U1
        have y3 := own_row (Frz.os Frz.int) y2 U4
        refine x_py 23 (.pointer (some ⟨U2, 0 + Int.toNat s3293 * 1, none⟩)) rfl (by kernel_rfl) (tg := 105) (by kernel_rfl) (cb c4) (fun _ => U3 _ _ _ _ _ _ _ _ _ rfl rfl) (fun _ => hS) ?_
        obtain ⟨a65, U5, hrow3318, r5⟩ := at_load1 Ag43 Sz43 rfl rfl y3
        obtain ⟨U6, U7, U8, rfl⟩ := rs_sl r5
        refine x_ly 24 (.slice U6 U7 U8) rfl (by kernel_rfl) (tg := 105) (by kernel_rfl) (cb c4) (fun w' hw' => y_load rfl (U5 w' hw')) hS (x_one (i := 25) (by kernel_rfl) ?_)
        have hO := hO.fr2
        obtain ⟨r3321, U9, hs⟩ := bind_some hs
        refine xk_cally (b := false) rfl (tg := 105) (by kernel_rfl) (cb c4) Bd95 rfl (c_spec_l3Before (M := (Less b9 g8)) x3312 x3316 r4 r5 hO.less.fut U9) rfl (by rintro _ _ _ ⟨rfl, b7⟩; exact hS.ext b7) ?_
        rintro _ a66 ⟨rfl, b7⟩
        have h0 := h0.ext b7
        have h2 := h2.ext b7
        have a0 := a0.cn b7
        have b6 := b6.ext b7
        have d5 := d5.ext b7
        have d1 := d1.ext b7
        have r3 := r3.ext b7
        have hrow3308 := hrow3308.cn b7
        have r4 := r4.ext b7
        have hrow3314 := hrow3314.cn b7
        have r5 := r5.ext b7
        have hrow3318 := hrow3318.cn b7
        have hMid := hMid.ext b7
        have x7 := at_ext x7 b7
        have x8 := at_ext x8 b7
        have x9 := at_ext x9 b7
        have y0 := at_ext y0 b7
        have y1 := at_ext y1 b7
        have y2 := at_ext y2 b7
        have y3 := at_ext y3 b7
        have hC := hC.ext b7
        have hO := hO.ext b7
        have hS := hS.ext b7
        refine x_py 26 (.bool r3321) rfl (by kernel_rfl) (tg := 102) (by kernel_rfl) (cb e6) (fun _ => y_pick_f (cb c4) rfl) (fun _ => hS) (x_p 27 (.bool r3321) rfl (by kernel_rfl)  (fun _ => y_pick_t (cb e6) rfl) (fun _ => hS) (x_end (by kernel_rfl) ?_))
        clear hS
        cases hs
        exact ⟨_, fr_ovl 215 ⟨rfl, rfl, rfl, rfl, rfl, rfl, rfl, rfl, rfl, trivial⟩, hMid⟩
       refine x_pn 14 rfl (by kernel_rfl) (tg := 102) (by kernel_rfl) (cb e6) (fun _ => hS) (x_pn 15 rfl (by kernel_rfl) (tg := 102) (by kernel_rfl) (cb e6) (fun _ => hS) (x_pn 16 rfl (by kernel_rfl) (tg := 102) (by kernel_rfl) (cb e6) (fun _ => hS) (x_pnu 17 rfl (by kernel_rfl) (tg := 105) (by kernel_rfl) rfl (fun _ => hS) (x_pnu 18 rfl (by kernel_rfl) (tg := 105) (by kernel_rfl) rfl (fun _ => hS) (x_pnu 19 rfl (by kernel_rfl) (tg := 105) (by kernel_rfl) rfl (fun _ => hS) (x_pnu 20 rfl (by kernel_rfl) (tg := 105) (by kernel_rfl) rfl (fun _ => hS) (x_pnu 21 rfl (by kernel_rfl) (tg := 105) (by kernel_rfl) rfl (fun _ => hS) (x_pnu 22 rfl (by kernel_rfl) (tg := 105) (by kernel_rfl) rfl (fun _ => hS) (x_pnu 23 rfl (by kernel_rfl) (tg := 105) (by kernel_rfl) rfl (fun _ => hS) (x_pnu 24 rfl (by kernel_rfl) (tg := 105) (by kernel_rfl) rfl (fun _ => hS) (x_pnu 25 rfl (by kernel_rfl) (tg := 105) (by kernel_rfl) rfl (fun _ => hS) (x_pn 26 rfl (by kernel_rfl) (tg := 102) (by kernel_rfl) (cb e6) (fun _ => hS) (x_p 27 (.bool false) rfl (by kernel_rfl)  (fun _ => y_pick_f (cb e6) rfl) (fun _ => hS) (x_end (by kernel_rfl) ?_))))))))))))))
       clear hS
       cases hs
       exact ⟨_, fr_ovl 215 ⟨rfl, rfl, rfl, rfl, rfl, rfl, rfl, rfl, rfl, trivial⟩, hMid⟩
      refine x_pn 6 rfl (by kernel_rfl) (tg := 94) (by kernel_rfl) (cb e2) (fun _ => hS) (x_pn 7 rfl (by kernel_rfl) (tg := 94) (by kernel_rfl) (cb e2) (fun _ => hS) (x_pn 8 rfl (by kernel_rfl) (tg := 94) (by kernel_rfl) (cb e2) (fun _ => hS) (x_pn 9 rfl (by kernel_rfl) (tg := 94) (by kernel_rfl) (cb e2) (fun _ => hS) (x_pn 10 rfl (by kernel_rfl) (tg := 94) (by kernel_rfl) (cb e2) (fun _ => hS) (x_pn 11 rfl (by kernel_rfl) (tg := 94) (by kernel_rfl) (cb e2) (fun _ => hS) (x_p 12 (.bool false) rfl (by kernel_rfl)  (fun _ => y_pick_f (cb e2) rfl) (fun _ => hS) (x_p 13 (.bool false) rfl (by kernel_rfl)  (fun _ => y_move rfl) (fun _ => hS) (x_pn 14 rfl (by kernel_rfl) (tg := 102) (by kernel_rfl) (by rfl) (fun _ => hS) (x_pn 15 rfl (by kernel_rfl) (tg := 102) (by kernel_rfl) (by rfl) (fun _ => hS) (x_pn 16 rfl (by kernel_rfl) (tg := 102) (by kernel_rfl) (by rfl) (fun _ => hS) (x_pnu 17 rfl (by kernel_rfl) (tg := 105) (by kernel_rfl) rfl (fun _ => hS) (x_pnu 18 rfl (by kernel_rfl) (tg := 105) (by kernel_rfl) rfl (fun _ => hS) (x_pnu 19 rfl (by kernel_rfl) (tg := 105) (by kernel_rfl) rfl (fun _ => hS) (x_pnu 20 rfl (by kernel_rfl) (tg := 105) (by kernel_rfl) rfl (fun _ => hS) (x_pnu 21 rfl (by kernel_rfl) (tg := 105) (by kernel_rfl) rfl (fun _ => hS) (x_pnu 22 rfl (by kernel_rfl) (tg := 105) (by kernel_rfl) rfl (fun _ => hS) (x_pnu 23 rfl (by kernel_rfl) (tg := 105) (by kernel_rfl) rfl (fun _ => hS) (x_pnu 24 rfl (by kernel_rfl) (tg := 105) (by kernel_rfl) rfl (fun _ => hS) (x_pnu 25 rfl (by kernel_rfl) (tg := 105) (by kernel_rfl) rfl (fun _ => hS) (x_pn 26 rfl (by kernel_rfl) (tg := 102) (by kernel_rfl) (by rfl) (fun _ => hS) (x_p 27 (.bool false) rfl (by kernel_rfl)  (fun _ => y_pick_f (by rfl) rfl) (fun _ => hS) (x_end (by kernel_rfl) ?_))))))))))))))))))))))
      clear hS
      cases hs
      exact ⟨_, fr_ovl 215 ⟨rfl, rfl, rfl, rfl, rfl, rfl, rfl, rfl, rfl, trivial⟩, hMid⟩
     rintro e1 G2 ⟨σ, rfl, k9⟩
     have h0 := h0.ext k9
     have h2 := h2.ext k9
     have a0 := a0.cn k9
     have b6 := b6.ext k9
     have d5 := d5.ext k9
     have d1 := d1.ext k9
     have hC := hC.ext k9
     have hO := hO.ext k9
     rcases bif_some hs with ⟨y4, hs⟩ | ⟨y4, hs⟩
     ·refine c_condT (cb y4) (c_region (mi rfl (ai rfl (c_nil (c_region (mi rfl (pl_val (.int .i64 (w64 (k3295 + 1))) (y_add rfl rfl) (ai rfl (c_nil ?_)))))))))
      cases hs
      have hO := hO.fr3
      have hO := hO.fr3
      have hO := hO.fr3
      have hO := hO.fr3
      exact ⟨_, fr_ovl 215 ⟨rfl, rfl, rfl, rfl, rfl, rfl, rfl, congrArg (Value.int .i64) hw, trivial⟩, hC, hO, h0, h2, a0, b6, d5, d1⟩
     refine c_condF (cb y4) (wp_skip (c_region (mi rfl (pl_val (.int .i64 (w64 (k3295 + 1))) (y_add rfl rfl) (ai rfl (c_nil ?_))))))
     cases hs
     have hO := hO.fr3
     have hO := hO.fr3
     have hO := hO.fr3
     have hO := hO.fr3
     exact ⟨_, fr_ovl 215 ⟨rfl, rfl, rfl, rfl, rfl, rfl, rfl, congrArg (Value.int .i64) hw, trivial⟩, hC, hO, h0, h2, a0, b6, d5, d1⟩
    ·skip
     have hO := hO.fr3
     have hO := hO.fr3
     have hO := hO.fr3
     have hO := hO.fr3
     exact ⟨_, fr_ovl 215 ⟨rfl, rfl, rfl, rfl, rfl, rfl, rfl, rfl, trivial⟩, hC, hO, h0, h2, a0, b6, d5, d1⟩
    cases o3297 with
    | nx _ => exact True.intro
    | rt r_ =>
     have hs := after_rt hs
     intro e1 l3 hK
     cases hs
     exact hK
    | br s3293 =>
     have hs := after_br hs
     rintro e1 c0 ⟨σ, rfl, hC, hO, h0, h2, a0, b6, d5, d1⟩
     refine c_seq (c_sr (mi rfl (pl_val _ (y_lss rfl rfl) (c_nil ?_))))
     rcases bif_some hs with ⟨y5, hs⟩ | ⟨y5, hs⟩
     ·refine c_condT (cb y5) (c_sr (ms rfl (ax rfl (c_nil (wp_ret ?_)))))
      cases hs
      have hO := hO.drop
      have hO := hO.drop
      have hO := hO.fr1
      have hO := hO.drop
      exact ⟨_, a4, a6, a5, g8, fr_ovl 215 ⟨rfl, trivial⟩, hC, (b6.free (Free.os (Free.os Free.int))), hO.top⟩
     refine c_condF (cb y5) (wp_skip (c_sr (ms rfl (mi rfl ?_))))
     obtain ⟨x3324, V0, hs⟩ := bind_some hs
     obtain ⟨G3, a67, G4, V1, V2, a68, a69⟩ := os_idx Sl111 Sz4 d5 V0
     refine pl_val _ (V2 _ _ _ _ _ _ _ _ _ rfl rfl) ?_
     have hO := hO.fr1
     obtain ⟨G5, c5, V3, m0, V4, a2⟩ := os_store (P := Try.prog) (c' := [(.bool true)]) G4 d5 V1 (fun g hg => hO.inM g (os_block d5 g (by simpa using hg))) ⟨rfl, rfl⟩ List.nodup_nil (fun _ h => nomatch h) (fun _ h => .inl h)
     have m9 : ∀ q ∈ [G3], q ∈ k8 := fun q hq => os_block d5 q (by rw [G4]; exact hq)
     refine pl_skip (w' := G5) (ys_store rfl rfl (V3 _ _ rfl Sz4)) ?_
     have h0 := h0.mt m0 hO m9
     have h2 := h2.mt m0 hO m9
     have a0 := a0.ap m0 hO m9 (mem_r (mem_r (mem_l (List.mem_singleton.2 rfl))))
     have b6 := b6.ma m0 hO m9 (fun _ e => (mem_r (mem_l (e))))
     have d1 := d1.ma m0 hO m9 (fun _ e => (mem_l (e)))
     have hC := hC.st m0 hO m9
     have hO := hO.grow m0 (fun q hq => .inl ((V4 q hq).resolve_right (fun h => nomatch h))) (os_nodup a2) a2.fpl
     refine c_nil (c_sr (ms rfl (mi rfl ?_)))
     obtain ⟨G6, y6, V5, G7, l0, G8⟩ := new_block G5 [(.int .i64 s3293)] 3
     refine pl_val (w' := G6) (.slice (some ⟨y6, 0, none⟩) 1 1) (y_bslice rfl (by rw [V5, G7]; kernel_rfl)) ?_
     have h0 := h0.ext l0
     have h2 := h2.ext l0
     have a0 := a0.cn l0
     have b6 := b6.ext l0
     have a2 := a2.ext l0
     have d1 := d1.ext l0
     have hC := hC.ext l0
     have hO := hO.new1 l0 G7 G8.lt
     have y8 := os_of_box (r := ri) (M := b9) (css := [[(.int .i64 s3293)]]) (fps := [([] : List Nat)]) (xs := ([s3293] : List Int)) G8 ⟨⟨rfl, rfl⟩, trivial⟩ (Nat.le_of_ble_eq_true rfl) (List.nodup_cons.2 ⟨(fun h => nomatch h), List.nodup_nil⟩)
     have y8 : (RT.os 3 ri).val b9 G6 (.slice (some ⟨y6, 0, none⟩) 1 1) [s3293] [y6] := y8
     obtain ⟨y3330, V6, hs⟩ := bind_some hs
     have hO := hO.fr2
     obtain ⟨c6, c7, c8, V7, c9, V8, m1, V9, a3⟩ := app_os Rw43 V6 d1 y8 hO.inM (fun g hg hq => hO.apart g hq (mem_l hg))
     have n0 := os_block d1
     refine pl_val (w' := V7) (.slice c6 c7 c8) (y_append rfl rfl (V8 _)) ?_
     have hO := hO.fr1
     have hO := hO.fr1
     have h0 := h0.mt m1 hO n0
     have h2 := h2.mt m1 hO n0
     have a0 := a0.ap m1 hO n0 (mem_r (mem_r (mem_r (mem_l (List.mem_singleton.2 rfl)))))
     have b6 := b6.ma m1 hO n0 (fun _ e => (mem_r (mem_r (mem_l (e)))))
     have a2 := a2.ma m1 hO n0 (fun _ e => (mem_r (mem_l (e))))
     have hC := hC.st m1 hO n0
     have hO := hO.eat m1 V9 (os_nodup a3) a3.fpl
     refine ax rfl (c_nil (c_sr (ms rfl (pl_val _ (y_len' Sl43 (os_len a3) rfl) (pl_val (.int .i64 (w64 ((y3330.length : Int) - 1))) (y_sub rfl rfl) (ai rfl (c_nil (c_sr (ai rfl (c_nil ?_))))))))))
     obtain ⟨o4306, W0, hs⟩ := bind_some hs
     refine wp_block (wp_forC (id := 8) (a_.2.length : Int) (I := fun k4304 s4302 a c2 => ∃ (σ : Nat → Value) (f1 : Nat → Prop) (n1 : List Nat), a = fr 215 (ovl σ [(1, (.int .i64 k)), (3, (.slice pa2 pn2 pc2)), (4, (pq a1 0)), (9, (.slice a4 a6 a5)), (10, (.slice a8 b0 a9)), (11, (.slice c6 c7 c8)), (18, (.int .i64 (w64 ((y3330.length : Int) - 1)))), (19, (.int .i64 k4304))]) ∧ Chg [] w c2 ∧ Own (Nw w []) f1 c2 (c9 ++ (c5 ++ (n1 ++ (([a1]) ++ [])))) ∧ Keeps w M f1 ∧ (RT.rs (RT.pr ri (RT.rs ri))).val f1 c2 (.slice pa0 pn0 pc0) a_.2 ([]) ∧ (RT.rs (RT.rs ri)).val f1 c2 (.slice pa2 pn2 pc2) tuples ([]) ∧ BoxV c2 a1 35 [(.int .i64 a_.1), (.slice pa0 pn0 pc0)] ∧ (RT.os 43 (RT.os 3 ri)).val f1 c2 (.slice a4 a6 a5) s4302 n1 ∧ (RT.os 4 RT.bool).val f1 c2 (.slice a8 b0 a9) (List.set s3253.2.2 (Int.toNat s3293) true) c5 ∧ (RT.os 3 ri).val f1 c2 (.slice c6 c7 c8) y3330 c9) (J := fun s4302 a c2 => ∃ (σ : Nat → Value) (j3 : Nat → Prop) (r6 : List Nat), a = fr 215 (ovl σ [(1, (.int .i64 k)), (3, (.slice pa2 pn2 pc2)), (4, (pq a1 0)), (9, (.slice a4 a6 a5)), (10, (.slice a8 b0 a9)), (11, (.slice c6 c7 c8))]) ∧ Chg [] w c2 ∧ Own (Nw w []) j3 c2 (c9 ++ (c5 ++ (r6 ++ (([a1]) ++ [])))) ∧ Keeps w M j3 ∧ (RT.rs (RT.pr ri (RT.rs ri))).val j3 c2 (.slice pa0 pn0 pc0) a_.2 ([]) ∧ (RT.rs (RT.rs ri)).val j3 c2 (.slice pa2 pn2 pc2) tuples ([]) ∧ BoxV c2 a1 35 [(.int .i64 a_.1), (.slice pa0 pn0 pc0)] ∧ (RT.os 43 (RT.os 3 ri)).val j3 c2 (.slice a4 a6 a5) s4302 r6 ∧ (RT.os 4 RT.bool).val j3 c2 (.slice a8 b0 a9) (List.set s3253.2.2 (Int.toNat s3293) true) c5 ∧ (RT.os 3 ri).val j3 c2 (.slice c6 c7 c8) y3330 c9) (K := (k_spec_l8Terms M w)) ?_ ?_ 0 s3253.2.1 o4306 _ _ ?_ W0 ?_)
     ·rintro k4304 s4302 a c2 ⟨σ, f1, n1, rfl, hC, hO, hK, h0, h2, a0, m2, a2, a3⟩ hlt
      refine c_seq (c_sr (mi rfl (pl_val (pq a1 1) (y_faddr rfl Fa35x1) (pl_val (.slice pa0 pn0 pc0) (y_load rfl ((box_load Ag33 Sz33 a0 [(.int .i64 a_.1)] [(.slice pa0 pn0 pc0)] [] rfl rfl (fun _ => rfl)) _ (Chg.refl _ _))) (pl_val _ (y_len' Sl33 (rs_len h0) rfl) (pl_val _ (y_lss rfl rfl) (c_nil (c_condF (cb (decide_eq_false hlt)) (wp_exit ?_)))))))))
      have hO := hO.fr3
      have hO := hO.fr3
      have hO := hO.fr3
      have hO := hO.fr3
      exact ⟨rfl, _, f1, n1, fr_ovl 215 ⟨rfl, rfl, rfl, rfl, rfl, rfl, trivial⟩, hC, hO, hK, h0, h2, a0, m2, a2, a3⟩
     ·rintro k4304 s4302 o4306 a c2 ⟨σ, f1, n1, rfl, hC, hO, hK, h0, h2, a0, m2, a2, a3⟩ hlt hw hs
      refine c_seq (c_sr (mi rfl (pl_val (pq a1 1) (y_faddr rfl Fa35x1) (pl_val (.slice pa0 pn0 pc0) (y_load rfl ((box_load Ag33 Sz33 a0 [(.int .i64 a_.1)] [(.slice pa0 pn0 pc0)] [] rfl rfl (fun _ => rfl)) _ (Chg.refl _ _))) (pl_val _ (y_len' Sl33 (rs_len h0) rfl) (pl_val _ (y_lss rfl rfl) (c_nil (c_condT (cb (decide_eq_true hlt)) (wp_skip (c_seq (wp_block (c_seq (x_start [] Mx rfl ?_)))))))))))))
      have j4 := Chg.drew c2
      generalize World.drew c2 = G9 at j4 ⊢
      have h0 := h0.ext j4
      have h2 := h2.ext j4
      have a0 := a0.cn j4
      have m2 := m2.ext j4
      have a2 := a2.ext j4
      have a3 := a3.ext j4
      have hC := hC.ext j4
      have hO := hO.ext j4
      have hS := Chg.refl [] G9
      refine x_p 0 (pq a1 1) rfl (by kernel_rfl)  (fun _ => y_faddr rfl Fa35x1) (fun _ => hS) (x_l 1 (.slice pa0 pn0 pc0) rfl (by kernel_rfl)  (fun w' hw' => y_load rfl ((box_load Ag33 Sz33 a0 [(.int .i64 a_.1)] [(.slice pa0 pn0 pc0)] [] rfl rfl (fun _ => rfl)) w' hw')) hS (x_p 2 (.int .i64 k4304) rfl (by kernel_rfl)  (fun _ => y_move rfl) (fun _ => hS) ?_))
      obtain ⟨x4323, W1, hs⟩ := bind_some hs
      obtain ⟨H0, H1, W2, y9⟩ := rs_idx Sl33 Sz89 h0 W1
      refine x_p 3 (pq H0 H1) rfl (by kernel_rfl)  (fun _ => W2 _ _ _ _ _ _ _ _ _ rfl rfl) (fun _ => hS) ?_
      obtain ⟨z0, _⟩ := pr_at y9
      refine x_p 4 (.pointer (some ⟨H0, H1 + 0, none⟩)) rfl (by kernel_rfl)  (fun _ => y_faddr rfl Fa89x0) (fun _ => hS) (x_l 5 (.int .i64 x4323.1) rfl (by kernel_rfl)  (fun w' hw' => y_load rfl ((at_load_int Ag3 Sz3 z0) w' hw')) hS (x_p 7 (pq a1 1) rfl (by kernel_rfl)  (fun _ => y_faddr rfl Fa35x1) (fun _ => hS) (x_l 8 (.slice pa0 pn0 pc0) rfl (by kernel_rfl)  (fun w' hw' => y_load rfl ((box_load Ag33 Sz33 a0 [(.int .i64 a_.1)] [(.slice pa0 pn0 pc0)] [] rfl rfl (fun _ => rfl)) w' hw')) hS (x_p 9 (.int .i64 k4304) rfl (by kernel_rfl)  (fun _ => y_move rfl) (fun _ => hS) ?_))))
      obtain ⟨x4326, W3, hs⟩ := bind_some hs
      obtain ⟨H2, H3, W4, z1⟩ := rs_idx Sl33 Sz89 h0 W3
      refine x_p 10 (pq H2 H3) rfl (by kernel_rfl)  (fun _ => W4 _ _ _ _ _ _ _ _ _ rfl rfl) (fun _ => hS) ?_
      obtain ⟨z2, _⟩ := pr_at z1
      refine x_p 11 (.pointer (some ⟨H2, H3 + 0, none⟩)) rfl (by kernel_rfl)  (fun _ => y_faddr rfl Fa89x0) (fun _ => hS) (x_l 12 (.int .i64 x4326.1) rfl (by kernel_rfl)  (fun w' hw' => y_load rfl ((at_load_int Ag3 Sz3 z2) w' hw')) hS (x_p 13 (.bool (decide (0 < x4326.1))) rfl (by kernel_rfl)  (fun _ => y_gtr rfl rfl) (fun _ => hS) (x_one (i := 6) (by kernel_rfl) ?_)))
      obtain ⟨y4330, W5, hs⟩ := bind_some hs
      obtain ⟨z3, z4, z5, W6, W7, W8, e5, W9, z6⟩ := mk_os (M := f1) (w := G9) (r := ri) Rw43 W5 (fun _ _ => ⟨rfl, rfl⟩)
      refine xk_val (w' := W6) (b := false) (.slice z3 z4 z5) rfl  (y_make rfl rfl W8) rfl (fun _ => hS.ext e5) ?_
      have h0 := h0.ext e5
      have h2 := h2.ext e5
      have a0 := a0.cn e5
      have m2 := m2.ext e5
      have a2 := a2.ext e5
      have a3 := a3.ext e5
      have y9 := at_ext y9 e5
      have z0 := at_ext z0 e5
      have z1 := at_ext z1 e5
      have z2 := at_ext z2 e5
      have hC := hC.ext e5
      have hO := hO.new e5 W9 (os_nodup z6) z6.fpl
      have hS := hS.ext e5
      refine x_p 14 (.slice z3 z4 z5) rfl (by kernel_rfl)  (fun _ => y_assign rfl) (fun _ => hS) (x_p 15 (.bool (decide (0 < x4326.1))) rfl (by kernel_rfl)  (fun _ => y_assign rfl) (fun _ => hS) (x_end (by kernel_rfl) ?_))
      clear hS
      obtain ⟨o4638, X0, hs⟩ := bind_some hs
      refine wp_block (wp_iter (id := 10) (I := fun s4634 a d0 => ∃ (σ : Nat → Value) (d6 : Nat → Prop) (d7 : Option Addr) (d8 : Nat) (d9 : Nat) (d2 : List Nat) (e3 : List Nat), a = fr 215 (ovl σ [(1, (.int .i64 k)), (3, (.slice pa2 pn2 pc2)), (4, (pq a1 0)), (9, (.slice a4 a6 a5)), (10, (.slice a8 b0 a9)), (11, (.slice c6 c7 c8)), (18, (.int .i64 (w64 ((y3330.length : Int) - 1)))), (19, (.int .i64 k4304)), (20, (.slice d7 d8 d9)), (21, (.bool s4634.2.1))]) ∧ Chg [] w d0 ∧ Own (Nw w []) d6 d0 (d2 ++ (c9 ++ (c5 ++ (e3 ++ (([a1]) ++ []))))) ∧ Keeps w M d6 ∧ (RT.rs (RT.pr ri (RT.rs ri))).val d6 d0 (.slice pa0 pn0 pc0) a_.2 ([]) ∧ (RT.rs (RT.rs ri)).val d6 d0 (.slice pa2 pn2 pc2) tuples ([]) ∧ BoxV d0 a1 35 [(.int .i64 a_.1), (.slice pa0 pn0 pc0)] ∧ (RT.os 43 (RT.os 3 ri)).val d6 d0 (.slice a4 a6 a5) s4634.2.2 e3 ∧ (RT.os 4 RT.bool).val d6 d0 (.slice a8 b0 a9) (List.set s3253.2.2 (Int.toNat s3293) true) c5 ∧ (RT.os 3 ri).val d6 d0 (.slice c6 c7 c8) y3330 c9 ∧ (RT.os 3 ri).val d6 d0 (.slice d7 d8 d9) s4634.1 d2) (J := fun s4634 a d0 => ∃ (σ : Nat → Value) (h3 : Nat → Prop) (H4 : Option Addr) (H5 : Nat) (H6 : Nat) (z7 : List Nat) (r7 : List Nat), a = fr 215 (ovl σ [(1, (.int .i64 k)), (3, (.slice pa2 pn2 pc2)), (4, (pq a1 0)), (9, (.slice a4 a6 a5)), (10, (.slice a8 b0 a9)), (11, (.slice c6 c7 c8)), (18, (.int .i64 (w64 ((y3330.length : Int) - 1)))), (19, (.int .i64 k4304))]) ∧ Chg [] w d0 ∧ Own (Nw w []) h3 d0 (z7 ++ (c9 ++ (c5 ++ (r7 ++ (([a1]) ++ []))))) ∧ Keeps w M h3 ∧ (RT.rs (RT.pr ri (RT.rs ri))).val h3 d0 (.slice pa0 pn0 pc0) a_.2 ([]) ∧ (RT.rs (RT.rs ri)).val h3 d0 (.slice pa2 pn2 pc2) tuples ([]) ∧ BoxV d0 a1 35 [(.int .i64 a_.1), (.slice pa0 pn0 pc0)] ∧ (RT.os 43 (RT.os 3 ri)).val h3 d0 (.slice a4 a6 a5) s4634.2.2 r7 ∧ (RT.os 4 RT.bool).val h3 d0 (.slice a8 b0 a9) (List.set s3253.2.2 (Int.toNat s3293) true) c5 ∧ (RT.os 3 ri).val h3 d0 (.slice c6 c7 c8) y3330 c9 ∧ (RT.os 3 ri).val h3 d0 (.slice H4 H5 H6) s4634.1 z7) (K := (k_spec_l8Terms M w)) ?_ FU (y4330, (decide (0 < x4326.1)), s4302) o4638 _ _ ?_ X0 ?_)
      ·rintro s4634 o4638 a d0 ⟨σ, d6, d7, d8, d9, d2, e3, rfl, hC, hO, hK, h0, h2, a0, b1, a2, a3, a7⟩ hs
       refine c_seq (c_sr (mb rfl (c_nil ?_)))
       rcases bif_some hs with ⟨z8, hs⟩ | ⟨z8, hs⟩
       ·refine c_condT (cb z8) (wp_skip (wp_block (c_seq (c_sr (ms rfl (mi rfl ?_))))))
        obtain ⟨r4650, X1, hs⟩ := bind_some hs
        refine pl_call Bd72 rfl (c_spec_l1Has (M := (Less d6 d2)) s4634.1 (w64 ((y3330.length : Int) - 1)) (((Frz.os Frz.int)).val a7 Less.sub Less.not) hO.less.fut X1) ?_
        rintro _ X2 ⟨rfl, j5⟩
        have h0 := h0.ext j5
        have h2 := h2.ext j5
        have a0 := a0.cn j5
        have b1 := b1.ext j5
        have a2 := a2.ext j5
        have a3 := a3.ext j5
        have a7 := a7.ext j5
        have hC := hC.ext j5
        have hO := hO.ext j5
        refine c_nil ?_
        rcases bif_some hs with ⟨z9, hs⟩ | ⟨z9, hs⟩
        ·refine c_condT (cb z9) (c_sr (mi rfl (pl_val (.int .i64 (w64 ((-1) - k4304))) (y_sub rfl rfl) ?_)))
         obtain ⟨A0, n2, X3, H7, j6, H8⟩ := new_block X2 [(.int .i64 (w64 ((-1) - k4304)))] 3
         refine pl_val (w' := A0) (.slice (some ⟨n2, 0, none⟩) 1 1) (y_bslice rfl (by rw [X3, H7]; kernel_rfl)) ?_
         have h0 := h0.ext j6
         have h2 := h2.ext j6
         have a0 := a0.cn j6
         have b1 := b1.ext j6
         have a2 := a2.ext j6
         have a3 := a3.ext j6
         have a7 := a7.ext j6
         have hC := hC.ext j6
         have hO := hO.new1 j6 H7 H8.lt
         have m3 := os_of_box (r := ri) (M := d6) (css := [[(.int .i64 (w64 ((-1) - k4304)))]]) (fps := [([] : List Nat)]) (xs := ([w64 ((-1) - k4304)] : List Int)) H8 ⟨⟨rfl, rfl⟩, trivial⟩ (Nat.le_of_ble_eq_true rfl) (List.nodup_cons.2 ⟨(fun h => nomatch h), List.nodup_nil⟩)
         have m3 : (RT.os 3 ri).val d6 A0 (.slice (some ⟨n2, 0, none⟩) 1 1) [w64 ((-1) - k4304)] [n2] := m3
         obtain ⟨H9, p6, X4, I0, h4, I1⟩ := new_block A0 [] 43
         refine pl_val (w' := H9) (.slice (some ⟨p6, 0, none⟩) 0 0) (y_bslice rfl (by rw [X4, I0]; kernel_rfl)) ?_
         have h0 := h0.ext h4
         have h2 := h2.ext h4
         have a0 := a0.cn h4
         have b1 := b1.ext h4
         have a2 := a2.ext h4
         have a3 := a3.ext h4
         have a7 := a7.ext h4
         have m3 := m3.ext h4
         have hC := hC.ext h4
         have hO := hO.new1 h4 I0 I1.lt
         have A1 := os_of_box (r := (RT.os 3 ri)) (M := d6) (css := []) (fps := []) (xs := ([] : List (List Int))) I1 trivial (Nat.zero_le _) (List.nodup_cons.2 ⟨(fun h => nomatch h), List.nodup_nil⟩)
         have A1 : (RT.os 43 (RT.os 3 ri)).val d6 H9 (.slice (some ⟨p6, 0, none⟩) 0 0) [] [p6] := A1
         refine ax rfl (ax rfl (c_nil (c_seq (c_sr (ai rfl (c_nil ?_))))))
         obtain ⟨l1, X5, m4, X6, hO, X7⟩ := os_inner (Frz.os Frz.int) A1 hO
         have h0 := h0.sub (M' := l1) m4
         have h2 := h2.sub (M' := l1) m4
         have b1 := b1.sub (M' := l1) m4
         have a2 := a2.sub (M' := l1) m4
         have a3 := a3.sub (M' := l1) m4
         have a7 := a7.sub (M' := l1) m4
         have m3 := m3.sub (M' := l1) m4
         have hK := hK.trans X6
         obtain ⟨o4729, X8, hs⟩ := bind_some hs
         refine wp_block (wp_iter (id := 12) (I := fun s4725 a b5 => ∃ (σ : Nat → Value) (e0 : Nat → Prop) (m5 : Option Addr) (m6 : Nat) (m7 : Nat) (r8 : List Nat) (n3 : Option Addr) (n4 : Nat) (n5 : Nat) (r9 : List Nat), a = fr 215 (ovl σ [(1, (.int .i64 k)), (3, (.slice pa2 pn2 pc2)), (4, (pq a1 0)), (9, (.slice a4 a6 a5)), (10, (.slice a8 b0 a9)), (11, (.slice c6 c7 c8)), (18, (.int .i64 (w64 ((y3330.length : Int) - 1)))), (19, (.int .i64 k4304)), (20, (.slice d7 d8 d9)), (21, (.bool s4634.2.1)), (22, (.slice m5 m6 m7)), (23, (.slice n3 n4 n5)), (24, (.int .i64 s4725.2.2))]) ∧ Chg [] w b5 ∧ Own (Nw w []) e0 b5 (r8 ++ (r9 ++ (d2 ++ (c9 ++ (c5 ++ (e3 ++ (([a1]) ++ []))))))) ∧ Keeps w M e0 ∧ (RT.rs (RT.pr ri (RT.rs ri))).val e0 b5 (.slice pa0 pn0 pc0) a_.2 ([]) ∧ (RT.rs (RT.rs ri)).val e0 b5 (.slice pa2 pn2 pc2) tuples ([]) ∧ BoxV b5 a1 35 [(.int .i64 a_.1), (.slice pa0 pn0 pc0)] ∧ (RT.os 43 (RT.os 3 ri)).val e0 b5 (.slice a4 a6 a5) s4634.2.2 e3 ∧ (RT.os 4 RT.bool).val e0 b5 (.slice a8 b0 a9) (List.set s3253.2.2 (Int.toNat s3293) true) c5 ∧ (RT.os 3 ri).val e0 b5 (.slice c6 c7 c8) y3330 c9 ∧ (RT.os 3 ri).val e0 b5 (.slice d7 d8 d9) s4634.1 d2 ∧ (RT.os 3 ri).val e0 b5 (.slice m5 m6 m7) s4725.1 r8 ∧ (RT.os 43 (RT.rs ri)).val e0 b5 (.slice n3 n4 n5) s4725.2.1 r9) (J := fun s4725 a b5 => ∃ (σ : Nat → Value) (b8 : Nat → Prop) (p7 : Option Addr) (p8 : Nat) (p9 : Nat) (n6 : List Nat) (s0 : Option Addr) (s1 : Nat) (s2 : Nat) (l2 : List Nat), a = fr 215 (ovl σ [(1, (.int .i64 k)), (3, (.slice pa2 pn2 pc2)), (4, (pq a1 0)), (9, (.slice a4 a6 a5)), (10, (.slice a8 b0 a9)), (11, (.slice c6 c7 c8)), (18, (.int .i64 (w64 ((y3330.length : Int) - 1)))), (19, (.int .i64 k4304)), (20, (.slice d7 d8 d9)), (21, (.bool s4634.2.1)), (22, (.slice p7 p8 p9)), (23, (.slice s0 s1 s2))]) ∧ Chg [] w b5 ∧ Own (Nw w []) b8 b5 (n6 ++ (l2 ++ (d2 ++ (c9 ++ (c5 ++ (e3 ++ (([a1]) ++ []))))))) ∧ Keeps w M b8 ∧ (RT.rs (RT.pr ri (RT.rs ri))).val b8 b5 (.slice pa0 pn0 pc0) a_.2 ([]) ∧ (RT.rs (RT.rs ri)).val b8 b5 (.slice pa2 pn2 pc2) tuples ([]) ∧ BoxV b5 a1 35 [(.int .i64 a_.1), (.slice pa0 pn0 pc0)] ∧ (RT.os 43 (RT.os 3 ri)).val b8 b5 (.slice a4 a6 a5) s4634.2.2 e3 ∧ (RT.os 4 RT.bool).val b8 b5 (.slice a8 b0 a9) (List.set s3253.2.2 (Int.toNat s3293) true) c5 ∧ (RT.os 3 ri).val b8 b5 (.slice c6 c7 c8) y3330 c9 ∧ (RT.os 3 ri).val b8 b5 (.slice d7 d8 d9) s4634.1 d2 ∧ (RT.os 3 ri).val b8 b5 (.slice p7 p8 p9) s4725.1 n6 ∧ (RT.os 43 (RT.rs ri)).val b8 b5 (.slice s0 s1 s2) s4725.2.1 l2) (K := (k_spec_l8Terms M w)) ?_ FU ([w64 ((-1) - k4304)], [], 0) o4729 _ _ ?_ X8 ?_)
         ·rintro s4725 o4729 a b5 ⟨σ, e0, m5, m6, m7, r8, n3, n4, n5, r9, rfl, hC, hO, hK, h0, h2, a0, b1, a2, a3, a7, n7, j7⟩ hs
          refine c_seq (c_seq (c_mid (I := fun a I2 => ∃ (σ : Nat → Value), a = fr 215 (ovl σ [(1, (.int .i64 k)), (3, (.slice pa2 pn2 pc2)), (4, (pq a1 0)), (9, (.slice a4 a6 a5)), (10, (.slice a8 b0 a9)), (11, (.slice c6 c7 c8)), (18, (.int .i64 (w64 ((y3330.length : Int) - 1)))), (19, (.int .i64 k4304)), (20, (.slice d7 d8 d9)), (21, (.bool s4634.2.1)), (22, (.slice m5 m6 m7)), (23, (.slice n3 n4 n5)), (24, (.int .i64 s4725.2.2)), (168, (.bool ((decide (s4725.2.2 < (s4634.1.length : Int))) && (decide ((s4725.1.length : Int) ≤ 60)))))]) ∧ Chg [] b5 I2) ?_ ?_))
          ·have hMid := Chg.refl [] b5
           refine c_region (mi rfl (ms rfl (pl_val _ (y_len' Sl43 (os_len a7) rfl) (pl_val _ (y_lss rfl rfl) (mb rfl ?_)))))
           rcases Bool.eq_false_or_eq_true ((decide (s4725.2.2 < (s4634.1.length : Int)))) with f3 | f3
           ·skip
            refine pl_yes (.slice m5 m6 m7) (tg := 164) (by kernel_rfl) (cb f3) (y_move rfl) (pl_yes (.int .i64 (s4725.1.length : Int)) (tg := 164) (by kernel_rfl) (cb f3) (y_len' Sl43 (os_len n7) rfl) (pl_yes (.bool (decide ((s4725.1.length : Int) ≤ 60))) (tg := 164) (by kernel_rfl) (cb f3) (y_leq rfl rfl) (pl_val (.bool ((decide (s4725.2.2 < (s4634.1.length : Int))) && (decide ((s4725.1.length : Int) ≤ 60)))) (y_pick_t (cb f3) (cb (by rw [f3]; rfl))) (c_nil ?_))))
            exact ⟨_, fr_ovl 215 ⟨rfl, rfl, rfl, rfl, rfl, rfl, rfl, rfl, rfl, rfl, rfl, rfl, rfl, rfl, trivial⟩, hMid⟩
           refine pl_not (tg := 164) (by kernel_rfl) (cb f3) (pl_not (tg := 164) (by kernel_rfl) (cb f3) (pl_not (tg := 164) (by kernel_rfl) (cb f3) (pl_val (.bool ((decide (s4725.2.2 < (s4634.1.length : Int))) && (decide ((s4725.1.length : Int) ≤ 60)))) (y_pick_f (cb f3) (cb (by rw [f3]; rfl))) (c_nil ?_))))
           exact ⟨_, fr_ovl 215 ⟨rfl, rfl, rfl, rfl, rfl, rfl, rfl, rfl, rfl, rfl, rfl, rfl, rfl, rfl, trivial⟩, hMid⟩
          rintro e1 I2 ⟨σ, rfl, f4⟩
          have h0 := h0.ext f4
          have h2 := h2.ext f4
          have a0 := a0.cn f4
          have b1 := b1.ext f4
          have a2 := a2.ext f4
          have a3 := a3.ext f4
          have a7 := a7.ext f4
          have n7 := n7.ext f4
          have j7 := j7.ext f4
          have hC := hC.ext f4
          have hO := hO.ext f4
          rcases bif_some hs with ⟨A2, hs⟩ | ⟨A2, hs⟩
          ·refine c_condT (cb A2) (wp_skip (c_seq (wp_block (c_sr (ms rfl (ms rfl (ms rfl (ms rfl (mi rfl ?_)))))))))
           obtain ⟨x4746, X9, hs⟩ := bind_some hs
           obtain ⟨Y0, a70, a71, a72, Y1, Y2, a73⟩ := os_idx Sl43 Sz3 a7 X9
           refine pl_val _ (Y1 _ _ _ _ _ _ _ _ _ rfl rfl) (pl_val (.int .i64 x4746) (y_load rfl ((at_load_int Ag3 Sz3 Y2) _ (Chg.refl _ _))) ?_)
           obtain ⟨x4748, Y3, hs⟩ := bind_some hs
           obtain ⟨Y4, a74, a75, a76, Y5, Y6, a77⟩ := os_idx Sl43 Sz3 a3 Y3
           refine pl_val _ (Y5 _ _ _ _ _ _ _ _ _ rfl rfl) (pl_val (.int .i64 x4748) (y_load rfl ((at_load_int Ag3 Sz3 Y6) _ (Chg.refl _ _))) ?_)
           obtain ⟨x4750, Y7, hs⟩ := bind_some hs
           obtain ⟨Y8, a78, a79, a80, Y9, Z0, Z1⟩ := os_idx Sl25 Sz43 b1 Y7
           have Z2 := own_row (Frz.os Frz.int) Z0 Z1
           refine pl_val _ (Y9 _ _ _ _ _ _ _ _ _ rfl rfl) ?_
           obtain ⟨a81, Z3, hrow4752, s3⟩ := at_load1 Ag43 Sz43 rfl rfl Z2
           obtain ⟨Z4, Z5, Z6, rfl⟩ := rs_sl s3
           refine pl_val (.slice Z4 Z5 Z6) (y_load rfl (Z3 _ (Chg.refl _ _))) ?_
           obtain ⟨y4755, Z7, hs⟩ := bind_some hs
           have hO := hO.fr5
           have hO := hO.fr1
           obtain ⟨A3, A4, A5, I3, Z8, Z9, f5, a10, j8⟩ := app_rs Rw43 Z7 (n7.sub (M' := (Less e0 e3)) Less.sub) s3 (fun g hg => ⟨hO.inM g hg, fun hq => hO.apart g hg (mem_l hq)⟩)
           have j8 := j8.free (M' := e0) (Free.os Free.int)
           have f6 := os_block n7
           refine pl_val (w' := I3) (.slice A3 A4 A5) (y_append rfl rfl (Z9 _)) ?_
           have h0 := h0.mt f5 hO f6
           have h2 := h2.mt f5 hO f6
           have a0 := a0.ap f5 hO f6 (mem_r (mem_r (mem_r (mem_r (mem_r (mem_l (List.mem_singleton.2 rfl)))))))
           have b1 := b1.ma f5 hO f6 (fun _ e => (mem_l (e)))
           have a2 := a2.ma f5 hO f6 (fun _ e => (mem_r (mem_r (mem_r (mem_r (mem_l (e)))))))
           have a3 := a3.ma f5 hO f6 (fun _ e => (mem_r (mem_r (mem_r (mem_l (e))))))
           have a7 := a7.ma f5 hO f6 (fun _ e => (mem_r (mem_r (mem_l (e)))))
           have j7 := j7.ma f5 hO f6 (fun _ e => (mem_r (mem_l (e))))
           have s3 := s3.mut f5 (fun g hg => ⟨hO.inM g (f6 g hg), fun e => hO.apart g (f6 g hg) (mem_l (e))⟩) (fun _ _ h => nomatch h)
           have hC := hC.st f5 hO f6
           have hO := hO.grow f5 a10 (os_nodup j8) j8.fpl
           refine ax rfl (c_nil (c_region (ms rfl (ms rfl (ms rfl (ms rfl (mi rfl ?_)))))))
           obtain ⟨x4757, a11, hs⟩ := bind_some hs
           obtain ⟨a12, a82, a83, a84, a13, A6, a85⟩ := os_idx Sl43 Sz3 a7 a11
           refine pl_val _ (a13 _ _ _ _ _ _ _ _ _ rfl rfl) (pl_val (.int .i64 x4757) (y_load rfl ((at_load_int Ag3 Sz3 A6) _ (Chg.refl _ _))) ?_)
           obtain ⟨x4759, a14, hs⟩ := bind_some hs
           obtain ⟨a15, a86, a87, a88, a16, A7, a89⟩ := os_idx Sl43 Sz3 a3 a14
           refine pl_val _ (a16 _ _ _ _ _ _ _ _ _ rfl rfl) (pl_val (.int .i64 x4759) (y_load rfl ((at_load_int Ag3 Sz3 A7) _ (Chg.refl _ _))) ?_)
           obtain ⟨x4761, a17, hs⟩ := bind_some hs
           obtain ⟨a18, a19, a20, A8⟩ := rs_idx Sl25 Sz43 h2 a17
           refine pl_val _ (a20 _ _ _ _ _ _ _ _ _ rfl rfl) ?_
           obtain ⟨a90, a21, n8⟩ := at_load Ag43 Sz43 (fun _ => rfl) A8
           obtain ⟨A9, B0, B1, rfl⟩ := rs_sl n8
           refine pl_val (.slice A9 B0 B1) (y_load rfl (a21 _ (Chg.refl _ _))) ?_
           obtain ⟨I4, B2, a22, I5, e4, I6⟩ := new_block I3 [(.slice A9 B0 B1)] 43
           refine pl_val (w' := I4) (.slice (some ⟨B2, 0, none⟩) 1 1) (y_bslice rfl (by rw [a22, I5]; kernel_rfl)) ?_
           have h0 := h0.ext e4
           have h2 := h2.ext e4
           have a0 := a0.cn e4
           have b1 := b1.ext e4
           have a2 := a2.ext e4
           have a3 := a3.ext e4
           have a7 := a7.ext e4
           have j7 := j7.ext e4
           have j8 := j8.ext e4
           have n8 := n8.ext e4
           have A6 := at_ext A6 e4
           have A7 := at_ext A7 e4
           have A8 := at_ext A8 e4
           have hC := hC.ext e4
           have hO := hO.new1 e4 I5 I6.lt
           have B3 := os_of_box (r := (RT.rs ri)) (M := e0) (css := [[(.slice A9 B0 B1)]]) (fps := [([] : List Nat)]) (xs := ([x4761] : List (List Int))) I6 ⟨(rs_unval n8), trivial⟩ (Nat.le_of_ble_eq_true rfl) (List.nodup_cons.2 ⟨(fun h => nomatch h), List.nodup_nil⟩)
           have B3 : (RT.os 43 (RT.rs ri)).val e0 I4 (.slice (some ⟨B2, 0, none⟩) 1 1) [x4761] [B2] := B3
           obtain ⟨y4768, a23, hs⟩ := bind_some hs
           have hO := hO.fr3
           obtain ⟨B4, B5, B6, a24, a25, a26, f7, a27, B7⟩ := app_os Rw25 a23 j7 B3 hO.inM (fun g hg hq => hO.apart g hq (mem_l hg))
           have h5 := os_block j7
           refine pl_val (w' := a24) (.slice B4 B5 B6) (y_append rfl rfl (a26 _)) ?_
           have hO := hO.fr1
           have hO := hO.fr1
           have h0 := h0.mt f7 hO h5
           have h2 := h2.mt f7 hO h5
           have a0 := a0.ap f7 hO h5 (mem_r (mem_r (mem_r (mem_r (mem_r (mem_r (mem_l (List.mem_singleton.2 rfl))))))))
           have b1 := b1.ma f7 hO h5 (fun _ e => (mem_r (mem_r (mem_l (e)))))
           have a2 := a2.ma f7 hO h5 (fun _ e => (mem_r (mem_r (mem_r (mem_r (mem_r (mem_l (e))))))))
           have a3 := a3.ma f7 hO h5 (fun _ e => (mem_r (mem_r (mem_r (mem_r (mem_l (e)))))))
           have a7 := a7.ma f7 hO h5 (fun _ e => (mem_r (mem_r (mem_r (mem_l (e))))))
           have j8 := j8.ma f7 hO h5 (fun _ e => (mem_r (mem_l (e))))
           have n8 := n8.mt f7 hO h5
           have hC := hC.st f7 hO h5
           have hO := hO.eat f7 a27 (os_nodup B7) B7.fpl
           refine ax rfl (c_nil (c_region (mi rfl (pl_val (.int .i64 (w64 (s4725.2.2 + 1))) (y_add rfl rfl) (ai rfl (c_nil ?_))))))
           cases hs
           have hO := hO.fr6
           have hO := hO.fr3
           have hO := hO.fr6
           have hO := hO.fr6
           have hO := hO.fr6
           have hO := hO.fr5
           have hO := hO.fr6
           exact ⟨_, e0, A3, A4, A5, Z8, B4, B5, B6, a25, fr_ovl 215 ⟨rfl, rfl, rfl, rfl, rfl, rfl, rfl, rfl, rfl, rfl, rfl, rfl, rfl, trivial⟩, hC, hO, hK, h0, h2, a0, b1, a2, a3, a7, j8, B7⟩
          refine c_condF (cb A2) (wp_exit ?_)
          cases hs
          have hO := hO.fr6
          have hO := hO.fr6
          have hO := hO.fr6
          have hO := hO.fr6
          have hO := hO.fr6
          have hO := hO.fr6
          have hO := hO.fr6
          exact ⟨rfl, _, e0, m5, m6, m7, r8, n3, n4, n5, r9, fr_ovl 215 ⟨rfl, rfl, rfl, rfl, rfl, rfl, rfl, rfl, rfl, rfl, rfl, rfl, trivial⟩, hC, hO, hK, h0, h2, a0, b1, a2, a3, a7, n7, j7⟩
         ·skip
          have hO := hO.fr6
          have hO := hO.fr6
          have hO := hO.fr6
          have hO := hO.fr6
          have hO := hO.fr6
          have hO := hO.fr5
          have hO := hO.fr6
          exact ⟨_, l1, (some ⟨n2, 0, none⟩), 1, 1, ([n2]), (some ⟨p6, 0, none⟩), 0, 0, X5, fr_ovl 215 ⟨rfl, rfl, rfl, rfl, rfl, rfl, rfl, rfl, rfl, rfl, rfl, rfl, rfl, trivial⟩, hC, hO, hK, h0, h2, a0, b1, a2, a3, a7, m3, X7⟩
         cases o4729 with
         | nx _ => exact True.intro
         | rt r_ =>
          have hs := after_rt hs
          intro e1 l3 hK
          cases hs
          exact hK
         | br s4725 =>
          have hs := after_br hs
          rintro e1 b5 ⟨σ, b8, p7, p8, p9, n6, s0, s1, s2, l2, rfl, hC, hO, hK, h0, h2, a0, b1, a2, a3, a7, s4, q0⟩
          refine c_sr (ms rfl (pl_val _ (y_len' Sl43 (os_len s4) rfl) (pl_val _ (y_leq rfl rfl) (c_nil ?_))))
          obtain ⟨s4780, a28, hs⟩ := bind_some hs
          refine c_mid (I := fun a h6 => ∃ (σ : Nat → Value) (q1 : List Nat), a = fr 215 (ovl σ [(1, (.int .i64 k)), (3, (.slice pa2 pn2 pc2)), (4, (pq a1 0)), (9, (.slice a4 a6 a5)), (10, (.slice a8 b0 a9)), (11, (.slice c6 c7 c8)), (18, (.int .i64 (w64 ((y3330.length : Int) - 1)))), (19, (.int .i64 k4304)), (20, (.slice d7 d8 d9)), (21, (.bool s4634.2.1))]) ∧ Chg [] w h6 ∧ Own (Nw w []) b8 h6 (d2 ++ (c9 ++ (c5 ++ (q1 ++ (([a1]) ++ []))))) ∧ (RT.rs (RT.pr ri (RT.rs ri))).val b8 h6 (.slice pa0 pn0 pc0) a_.2 ([]) ∧ (RT.rs (RT.rs ri)).val b8 h6 (.slice pa2 pn2 pc2) tuples ([]) ∧ BoxV h6 a1 35 [(.int .i64 a_.1), (.slice pa0 pn0 pc0)] ∧ (RT.os 43 (RT.os 3 ri)).val b8 h6 (.slice a4 a6 a5) s4780 q1 ∧ (RT.os 4 RT.bool).val b8 h6 (.slice a8 b0 a9) (List.set s3253.2.2 (Int.toNat s3293) true) c5 ∧ (RT.os 3 ri).val b8 h6 (.slice c6 c7 c8) y3330 c9 ∧ (RT.os 3 ri).val b8 h6 (.slice d7 d8 d9) s4634.1 d2) ?_ ?_
          ·replace hs := a28
           rcases bif_some hs with ⟨B8, hs⟩ | ⟨B8, hs⟩
           ·refine c_condT (cb B8) (c_region (ms rfl (ms rfl (pl_val (.agg #[(.int .i64 a_.1), (.slice pa0 pn0 pc0)]) (y_load rfl ((box_load Ag35 Sz35 a0 [] [(.int .i64 a_.1), (.slice pa0 pn0 pc0)] [] rfl rfl (fun h => nomatch h)) _ (Chg.refl _ _))) (mi rfl (ms rfl (mi rfl ?_)))))))
            have hO := hO.fr1
            obtain ⟨r4786, a29, hs⟩ := bind_some hs
            refine pl_call Bd70 rfl (c_spec_l8Apply (M := (Less b8 l2)) (a_.1, a_.2) k4304 s4725.2.1 k (h0.sub Less.sub) (((Frz.os (Frz.rs Frz.int))).val q0 Less.sub Less.not) hO.less.fut a29) ?_
            rintro _ a91 ⟨a92, a93, a94, s5, rfl, f8, q2, a30⟩
            have h0 := h0.ext f8
            have h2 := h2.ext f8
            have a0 := a0.cn f8
            have b1 := b1.ext f8
            have a2 := a2.ext f8
            have a3 := a3.ext f8
            have a7 := a7.ext f8
            have s4 := s4.ext f8
            have q0 := q0.ext f8
            have hC := hC.ext f8
            have hO := Own.join0 hO f8 a30
            have hO := hO.perm (R := s5 ++ (l2 ++ (n6 ++ (d2 ++ (c9 ++ (c5 ++ (e3 ++ (([a1]) ++ ([]))))))))) (by simp)
            have q2 := q2.free (M' := b8) (Free.os Free.int)
            refine ms rfl ?_
            have hO := hO.fr2
            have hO := hO.fr6
            have B9 := hO
            have B9 := B9.fr2
            have I7 := Own.lend (F := (e3 ++ (n6 ++ ([])))) (R := l2 ++ (d2 ++ (c9 ++ (c5 ++ (([a1]) ++ ([])))))) (Own.perm (B9.less) (by simp))
            obtain ⟨r4789, a31, hs⟩ := bind_some hs
            refine pl_call Bd94 rfl (c_spec_l8Better__take3 (M := (Less b8 s5)) s4634.2.2 tuples r4786 s4725.1 (b1.sub Less.sub) (h2.sub Less.sub) (((Frz.os Frz.int)).val q2 Less.sub Less.not) (s4.sub Less.sub) I7 I7.fut a31) ?_
            rintro _ a95 ⟨I8, rfl, h7, C0, a32⟩
            have hO := hO.fr2
            have hO := hO.fr2
            have hO := hO.fr2
            have hO := hO.perm (R := (e3 ++ (n6 ++ ([]))) ++ (s5 ++ (l2 ++ (d2 ++ (c9 ++ (c5 ++ (([a1]) ++ ([])))))))) (by simp)
            have h0 := h0.mt h7 hO same_
            have h2 := h2.mt h7 hO same_
            have a0 := a0.ap h7 hO same_ (mem_r (mem_r (mem_r (mem_r (mem_r (mem_l (List.mem_singleton.2 rfl)))))))
            have a2 := a2.ma h7 hO same_ (fun _ e => (mem_r (mem_r (mem_r (mem_r (mem_l (e)))))))
            have a3 := a3.ma h7 hO same_ (fun _ e => (mem_r (mem_r (mem_r (mem_l (e))))))
            have a7 := a7.ma h7 hO same_ (fun _ e => (mem_r (mem_r (mem_l (e)))))
            have q0 := q0.ma h7 hO same_ (fun _ e => (mem_r (mem_l (e))))
            have q2 := q2.ma h7 hO same_ (fun _ e => (mem_l (e)))
            have hC := hC.st h7 hO same_
            have hO := Own.join hO h7 a32
            have hO := hO.perm (R := I8 ++ (s5 ++ (l2 ++ (d2 ++ (c9 ++ (c5 ++ (([a1]) ++ ([])))))))) (by simp)
            have C0 := C0.free (M' := b8) (Free.os (Free.os Free.int))
            refine c_nil ?_
            cases hs
            have hO := hO.fr1
            have hO := hO.drop
            have hO := hO.fr1
            have hO := hO.drop
            have hO := hO.fr4
            have hO := hO.fr1
            have hO := hO.fr4
            have hO := hO.fr4
            have hO := hO.fr4
            exact ⟨_, I8, fr_ovl 215 ⟨rfl, rfl, rfl, rfl, rfl, rfl, rfl, rfl, rfl, rfl, trivial⟩, hC, hO, h0, h2, a0, C0, a2, a3, a7⟩
           refine c_condF (cb B8) (wp_skip ?_)
           cases hs
           have hO := hO.drop
           have hO := hO.drop
           have hO := hO.fr4
           have hO := hO.fr4
           have hO := hO.fr4
           have hO := hO.fr4
           have hO := hO.fr4
           exact ⟨_, e3, fr_ovl 215 ⟨rfl, rfl, rfl, rfl, rfl, rfl, rfl, rfl, rfl, rfl, trivial⟩, hC, hO, h0, h2, a0, b1, a2, a3, a7⟩
          rintro e1 h6 ⟨σ, q1, rfl, hC, hO, h0, h2, a0, C1, a2, a3, a7⟩
          refine c_region (ms rfl (mi rfl (pl_val (.int .i64 (w64 ((w64 ((y3330.length : Int) - 1)) + 1))) (y_add rfl rfl) ?_)))
          obtain ⟨r4791, a33, hs⟩ := bind_some hs
          refine pl_call Bd74 rfl (c_spec_l8Next (M := (Less b8 d2)) s4634.1 (w64 ((w64 ((y3330.length : Int) - 1)) + 1)) (((Frz.os Frz.int)).val a7 Less.sub Less.not) hO.less.fut a33) ?_
          rintro _ a96 ⟨s6, s7, s8, I9, rfl, j9, C2, a34⟩
          have h0 := h0.ext j9
          have h2 := h2.ext j9
          have a0 := a0.cn j9
          have C1 := C1.ext j9
          have a2 := a2.ext j9
          have a3 := a3.ext j9
          have a7 := a7.ext j9
          have hC := hC.ext j9
          have hO := Own.join0 hO j9 a34
          have hO := hO.perm (R := I9 ++ (d2 ++ (c9 ++ (c5 ++ (q1 ++ (([a1]) ++ ([]))))))) (by simp)
          have C2 := C2.free (M' := b8) (Free.os Free.int)
          refine pl_val (.tuple #[(.slice s6 s7 s8), (.bool r4791.2)]) (y_move rfl) (pl_val (.slice s6 s7 s8) (y_extract rfl (by kernel_rfl)) (pl_val (.bool r4791.2) (y_extract rfl (by kernel_rfl)) (ax rfl (ab rfl (c_nil ?_)))))
          cases hs
          have hO := hO.fr1
          have hO := hO.drop
          have hO := hO.fr4
          have hO := hO.fr4
          have hO := hO.fr4
          have hO := hO.fr4
          have hO := hO.fr4
          exact ⟨_, b8, s6, s7, s8, I9, q1, fr_ovl 215 ⟨rfl, rfl, rfl, rfl, rfl, rfl, rfl, rfl, rfl, rfl, trivial⟩, hC, hO, hK, h0, h2, a0, C1, a2, a3, C2⟩
        refine c_condF (cb z9) (wp_skip (c_region (ms rfl (mi rfl (pl_val (.int .i64 (w64 ((w64 ((y3330.length : Int) - 1)) + 1))) (y_add rfl rfl) ?_)))))
        obtain ⟨r4794, a35, hs⟩ := bind_some hs
        refine pl_call Bd74 rfl (c_spec_l8Next (M := (Less d6 d2)) s4634.1 (w64 ((w64 ((y3330.length : Int) - 1)) + 1)) (((Frz.os Frz.int)).val a7 Less.sub Less.not) hO.less.fut a35) ?_
        rintro _ a97 ⟨s9, t0, t1, J0, rfl, k0, C3, a36⟩
        have h0 := h0.ext k0
        have h2 := h2.ext k0
        have a0 := a0.cn k0
        have b1 := b1.ext k0
        have a2 := a2.ext k0
        have a3 := a3.ext k0
        have a7 := a7.ext k0
        have hC := hC.ext k0
        have hO := Own.join0 hO k0 a36
        have hO := hO.perm (R := J0 ++ (d2 ++ (c9 ++ (c5 ++ (e3 ++ (([a1]) ++ ([]))))))) (by simp)
        have C3 := C3.free (M' := d6) (Free.os Free.int)
        refine pl_val (.tuple #[(.slice s9 t0 t1), (.bool r4794.2)]) (y_move rfl) (pl_val (.slice s9 t0 t1) (y_extract rfl (by kernel_rfl)) (pl_val (.bool r4794.2) (y_extract rfl (by kernel_rfl)) (ax rfl (ab rfl (c_nil ?_)))))
        cases hs
        have hO := hO.fr1
        have hO := hO.drop
        have hO := hO.fr4
        have hO := hO.fr4
        have hO := hO.fr4
        have hO := hO.fr4
        have hO := hO.fr4
        exact ⟨_, d6, s9, t0, t1, J0, e3, fr_ovl 215 ⟨rfl, rfl, rfl, rfl, rfl, rfl, rfl, rfl, rfl, rfl, trivial⟩, hC, hO, hK, h0, h2, a0, b1, a2, a3, C3⟩
       refine c_condF (cb z8) (wp_exit ?_)
       cases hs
       have hO := hO.fr4
       have hO := hO.fr4
       have hO := hO.fr4
       have hO := hO.fr4
       have hO := hO.fr4
       exact ⟨rfl, _, d6, d7, d8, d9, d2, e3, fr_ovl 215 ⟨rfl, rfl, rfl, rfl, rfl, rfl, rfl, rfl, trivial⟩, hC, hO, hK, h0, h2, a0, b1, a2, a3, a7⟩
      ·skip
       have hO := hO.fr4
       have hO := hO.fr4
       have hO := hO.fr4
       have hO := hO.fr4
       have hO := hO.fr4
       exact ⟨_, f1, z3, z4, z5, W7, n1, fr_ovl 215 ⟨rfl, rfl, rfl, rfl, rfl, rfl, rfl, rfl, rfl, rfl, trivial⟩, hC, hO, hK, h0, h2, a0, m2, a2, a3, z6⟩
      cases o4638 with
      | nx _ => exact True.intro
      | rt r_ =>
       have hs := after_rt hs
       intro e1 l3 hK
       cases hs
       exact hK
      | br s4634 =>
       have hs := after_br hs
       rintro e1 d0 ⟨σ, h3, H4, H5, H6, z7, r7, rfl, hC, hO, hK, h0, h2, a0, a37, a2, a3, a98⟩
       refine c_region (mi rfl (pl_val (.int .i64 (w64 (k4304 + 1))) (y_add rfl rfl) (ai rfl (c_nil ?_))))
       cases hs
       have hO := hO.drop
       have hO := hO.fr3
       have hO := hO.fr3
       have hO := hO.fr3
       have hO := hO.fr3
       exact ⟨_, h3, r7, fr_ovl 215 ⟨rfl, rfl, rfl, rfl, rfl, rfl, rfl, congrArg (Value.int .i64) hw, trivial⟩, hC, hO, hK, h0, h2, a0, a37, a2, a3⟩
     ·skip
      have hO := hO.fr3
      have hO := hO.fr3
      have hO := hO.fr3
      have hO := hO.fr3
      exact ⟨_, b9, g8, fr_ovl 215 ⟨rfl, rfl, rfl, rfl, rfl, rfl, rfl, rfl, trivial⟩, hC, hO, hK, h0, h2, a0, b6, a2, a3⟩
     cases o4306 with
     | nx _ => exact True.intro
     | rt r_ =>
      have hs := after_rt hs
      intro e1 l3 hK
      cases hs
      exact hK
     | br s4302 =>
      have hs := after_br hs
      rintro e1 c2 ⟨σ, j3, r6, rfl, hC, hO, hK, h0, h2, a0, a38, a2, a3⟩
      cases hs
      have hO := hO.fr3
      have hO := hO.fr3
      have hO := hO.fr3
      have hO := hO.fr3
      exact ⟨_, j3, c6, c7, c8, c9, r6, c5, fr_ovl 215 ⟨rfl, rfl, rfl, rfl, rfl, rfl, trivial⟩, hC, hO, hK, h0, h2, a0, a38, a2, a3⟩
   ·skip
    have hO := hO.fr3
    have hO := hO.fr3
    have hO := hO.fr3
    have hO := hO.fr3
    exact ⟨_, M, (some ⟨b2, 0, none⟩), 0, 0, ([b2]), r1, d3, fr_ovl 215 ⟨rfl, rfl, rfl, rfl, rfl, rfl, trivial⟩, hC, hO, Keeps.refl, h0, h2, a0, R4, b3, b4⟩
   cases o3257 with
   | nx _ => exact True.intro
   | rt r_ =>
    have hs := after_rt hs
    intro e1 l3 hK
    cases hs
    exact hK
   | br s3253 =>
    have hs := after_br hs
    cases hs

theorem Bd52 : Bodied Try.prog 52 := bodied Try.func52 (by kernel_rfl) rfl

theorem Bd37 : Bodied Try.prog 37 := bodied Try.func37 (by kernel_rfl) rfl

theorem Bd53 : Bodied Try.prog 53 := bodied Try.func53 (by kernel_rfl) rfl

def k_spec_TermsFor (M : Nat → Prop) (w0 : World) (r : (List (List Int)) × Bool) (a : Act) (w : World) : Prop :=
  ∃ (σ : Nat → Value) (ra0 : Option Addr) (rn0 rc0 : Nat) (rf0 : List Nat), a = fr 60 (ovl σ [(6, (.slice ra0 rn0 rc0)), (7, (.bool r.2))]) ∧ Chg [] w0 w ∧ (RT.os 43 (RT.os 3 (RT.int .i64))).val M w (.slice ra0 rn0 rc0) r.1 rf0 ∧ Own (Nw w0 []) (fun _ => True) w (rf0 ++ ([]))
def s_spec_TermsFor (a_ : Int × (List (Int × (List Int)))) (k : Int) (gens : List (List Int)) : Option ((List (List Int)) × Bool) :=
  ((s_spec_l8Gens (a_.1, a_.2) k gens).bind fun r8 =>
  (bif (!r8) then some true else some (decide (6 < (gens.length : Int))))).bind fun s4 =>
  (bif s4 then some ([], false) else (s_spec_l8Close (a_.1, a_.2) k gens).bind fun r14 =>
  (bif (!r14.2) then some ([], false) else (s_spec_l8Terms (a_.1, a_.2) k gens r14.1).bind fun r20 =>
  (iter (S := Int × (List (List Int))) (R := (List (List Int)) × Bool) (fun s101 =>
  (bif (decide (s101.1 < (s101.2.length : Int))) then (idx s101.2 s101.1).bind fun x110 =>
  (bif ((x110.length : Int) == 0) then some (.rt ([], false)) else (idx s101.2 s101.1).bind fun x117 =>
  (s_spec_l1Own x117).bind fun r122 =>
  (idx s101.2 s101.1).bind fun x124 =>
  some (.nx (w64 (s101.1 + 1), List.set s101.2 (Int.toNat s101.1) r122))) else some (.br (s101.1, s101.2)))) FU (0, r20)).bind fun o105 => after o105 (fun r_ => some r_) (fun s101 =>
  some (s101.2, true))))
set_option maxHeartbeats 4000000 in
theorem c_spec_TermsFor {M : Nat → Prop} {w : World} {pa0 : Option Addr} {pn0 pc0 : Nat} {pa1 : Option Addr} {pn1 pc1 : Nat} (a_ : Int × (List (Int × (List Int)))) (k : Int) (gens : List (List Int)) (h0 : (RT.rs (RT.pr ri (RT.rs ri))).val M w (.slice pa0 pn0 pc0) a_.2 ([])) (h1 : (RT.rs (RT.rs ri)).val M w (.slice pa1 pn1 pc1) gens ([])) (hM : ∀ g, w.heap.size ≤ g → M g) {r : (List (List Int)) × Bool} (hs : s_spec_TermsFor a_ k gens = some r) :
    Gives Try.prog 26 [(.agg #[(.int .i64 a_.1), (.slice pa0 pn0 pc0)]), (.int .i64 k), (.slice pa1 pn1 pc1)] w (fun v w' => ∃ (ra0 : Option Addr) (rn0 rc0 : Nat) (rf0 : List Nat), v = (.tuple #[(.slice ra0 rn0 rc0), (.bool r.2)]) ∧ Chg [] w w' ∧ (RT.os 43 (RT.os 3 ri)).val M w' (.slice ra0 rn0 rc0) r.1 rf0 ∧ Own (Nw w []) (fun _ => True) w' (rf0 ++ ([]))) := by
 refine calls_fr Try.func26 rfl Try.ntmps26 (Nat.le_of_ble_eq_true rfl) ?_
 have hO := Own.start (N := Nw w []) hM Nw.fut
 have hC := Chg.refl [] w
 unfold s_spec_TermsFor at hs
 refine wp_mono (Q := KPost (k_spec_TermsFor M w r)) ?_ (fun e a f8 h => ?_)
 rotate_left
 ·cases e
  case ret =>
   obtain ⟨σ, ra0, rn0, rc0, rf0, rfl, hrest⟩ := h
   exact ret2x Try.results26 (res_tmp rfl) (res_tmp rfl) ⟨ra0, rn0, rc0, rf0, rfl, hrest⟩
  all_goals exact (h : False).elim
 refine c_sr ?_
 obtain ⟨c7, c8, f9, e2, c1, a1⟩ := new_block w [(.int .i64 a_.1), (.slice pa0 pn0 pc0)] 35
 refine pl_val (w' := c7) (pq c8 0) (y_box rfl (by rw [f9, e2]; kernel_rfl)) ?_
 have h0 := h0.ext c1
 have h1 := h1.ext c1
 have hC := hC.ext c1
 have hO := hO.new1 c1 e2 a1.lt
 refine ax rfl (ab rfl (c_nil (c_seq (c_seq ?_))))
 obtain ⟨s4, g0, hs⟩ := bind_some hs
 refine c_mid (I := fun a a0 => ∃ (σ : Nat → Value), a = fr 60 (ovl σ [(1, (.int .i64 k)), (2, (.slice pa1 pn1 pc1)), (3, (pq c8 0)), (6, (.slice none 0 0)), (7, (.bool false)), (21, (.bool s4))]) ∧ Chg [] c7 a0) ?_ ?_
 ·replace hs := g0
  have hMid := Chg.refl [] c7
  refine c_region (pl_val (.agg #[(.int .i64 a_.1), (.slice pa0 pn0 pc0)]) (y_load rfl ((box_load Ag35 Sz35 a1 [] [(.int .i64 a_.1), (.slice pa0 pn0 pc0)] [] rfl rfl (fun h => nomatch h)) _ (Chg.refl _ _))) (mi rfl (ms rfl ?_)))
  obtain ⟨r8, g1, hs⟩ := bind_some hs
  refine pl_call Bd52 rfl (c_spec_l8Gens (M := M) (a_.1, a_.2) k gens h0 h1 hO.fut g1) ?_
  rintro _ k7 ⟨rfl, b1⟩
  have h0 := h0.ext b1
  have h1 := h1.ext b1
  have a1 := a1.cn b1
  have hMid := hMid.ext b1
  have hC := hC.ext b1
  have hO := hO.ext b1
  refine pl_val _ (y_not rfl) (mb rfl ?_)
  rcases bif_some hs with ⟨a8, hs⟩ | ⟨a8, hs⟩
  ·skip
   refine pl_not (tg := 17) (by kernel_rfl) (cb a8) (pl_not (tg := 17) (by kernel_rfl) (cb a8) (pl_not (tg := 17) (by kernel_rfl) (cb a8) (pl_val (.bool true) (y_pick_t (cb a8) rfl) (c_nil ?_))))
   cases hs
   exact ⟨_, fr_ovl 60 ⟨rfl, rfl, rfl, rfl, rfl, rfl, trivial⟩, hMid⟩
  refine pl_yes (.slice pa1 pn1 pc1) (tg := 17) (by kernel_rfl) (cb a8) (y_move rfl) (pl_yes (.int .i64 (gens.length : Int)) (tg := 17) (by kernel_rfl) (cb a8) (y_len' Sl25 (rs_len h1) rfl) (pl_yes (.bool (decide (6 < (gens.length : Int)))) (tg := 17) (by kernel_rfl) (cb a8) (y_gtr rfl rfl) (pl_val (.bool (decide (6 < (gens.length : Int)))) (y_pick_f (cb a8) rfl) (c_nil ?_))))
  cases hs
  exact ⟨_, fr_ovl 60 ⟨rfl, rfl, rfl, rfl, rfl, rfl, trivial⟩, hMid⟩
 rintro e3 a0 ⟨σ, rfl, b7⟩
 have h0 := h0.ext b7
 have h1 := h1.ext b7
 have a1 := a1.cn b7
 have hC := hC.ext b7
 have hO := hO.ext b7
 rcases bif_some hs with ⟨c9, hs⟩ | ⟨c9, hs⟩
 ·refine c_condT (cb c9) (c_sr ?_)
  obtain ⟨e4, b2, g2, e5, b8, e6⟩ := new_block a0 [] 43
  refine pl_val (w' := e4) (.slice (some ⟨b2, 0, none⟩) 0 0) (y_bslice rfl (by rw [g2, e5]; kernel_rfl)) ?_
  have h0 := h0.ext b8
  have h1 := h1.ext b8
  have a1 := a1.cn b8
  have hC := hC.ext b8
  have hO := hO.new1 b8 e5 e6.lt
  have d0 := os_of_box (r := (RT.os 3 ri)) (M := M) (css := []) (fps := []) (xs := ([] : List (List Int))) e6 trivial (Nat.zero_le _) (List.nodup_cons.2 ⟨(fun h => nomatch h), List.nodup_nil⟩)
  have d0 : (RT.os 43 (RT.os 3 ri)).val M e4 (.slice (some ⟨b2, 0, none⟩) 0 0) [] [b2] := d0
  refine ax rfl (ab rfl (c_nil (wp_ret ?_)))
  cases hs
  have hO := hO.fr1
  have hO := hO.drop
  exact ⟨_, (some ⟨b2, 0, none⟩), 0, 0, ([b2]), fr_ovl 60 ⟨rfl, rfl, trivial⟩, hC, d0, hO.top⟩
 refine c_condF (cb c9) (wp_skip (c_sr (pl_val (.agg #[(.int .i64 a_.1), (.slice pa0 pn0 pc0)]) (y_load rfl ((box_load Ag35 Sz35 a1 [] [(.int .i64 a_.1), (.slice pa0 pn0 pc0)] [] rfl rfl (fun h => nomatch h)) _ (Chg.refl _ _))) (mi rfl (ms rfl ?_)))))
 obtain ⟨r14, g3, hs⟩ := bind_some hs
 refine pl_call Bd37 rfl (c_spec_l8Close (M := M) (a_.1, a_.2) k gens h0 h1 hO.fut g3) ?_
 rintro _ a2 ⟨c2, c3, c4, rfl, b9, c0⟩
 have hK := (show Keeps w M (Past M a0 a2) from Keeps.past hC.size)
 have h0 := h0.ext b9
 have h1 := h1.ext b9
 have a1 := a1.cn b9
 have hC := hC.ext b9
 have hO := hO.past b9
 have h0 := h0.sub (M' := (Past M a0 a2)) (fun g hg => .inl hg.1)
 have h1 := h1.sub (M' := (Past M a0 a2)) (fun g hg => .inl hg.1)
 refine pl_val (.tuple #[(.slice c2 c3 c4), (.bool r14.2)]) (y_move rfl) (pl_val (.slice c2 c3 c4) (y_extract rfl (by kernel_rfl)) (pl_val (.bool r14.2) (y_extract rfl (by kernel_rfl)) (ax rfl (ab rfl (c_nil (c_seq (c_sr (mb rfl (pl_val _ (y_not rfl) (c_nil ?_))))))))))
 rcases bif_some hs with ⟨d1, hs⟩ | ⟨d1, hs⟩
 ·refine c_condT (cb d1) (c_sr ?_)
  obtain ⟨e7, b3, g4, e8, b4, e9⟩ := new_block a2 [] 43
  refine pl_val (w' := e7) (.slice (some ⟨b3, 0, none⟩) 0 0) (y_bslice rfl (by rw [g4, e8]; kernel_rfl)) ?_
  have h0 := h0.ext b4
  have h1 := h1.ext b4
  have a1 := a1.cn b4
  have c0 := c0.ext b4
  have hC := hC.ext b4
  have hO := hO.new1 b4 e8 e9.lt
  have d2 := os_of_box (r := (RT.os 3 ri)) (M := (Past M a0 a2)) (css := []) (fps := []) (xs := ([] : List (List Int))) e9 trivial (Nat.zero_le _) (List.nodup_cons.2 ⟨(fun h => nomatch h), List.nodup_nil⟩)
  have d2 : (RT.os 43 (RT.os 3 ri)).val (Past M a0 a2) e7 (.slice (some ⟨b3, 0, none⟩) 0 0) [] [b3] := d2
  refine ax rfl (ab rfl (c_nil (wp_ret ?_)))
  cases hs
  have hO := hO.fr1
  have hO := hO.drop
  exact ⟨_, (some ⟨b3, 0, none⟩), 0, 0, ([b3]), fr_ovl 60 ⟨rfl, rfl, trivial⟩, hC, (d2.free (Free.os (Free.os Free.int))), hO.top⟩
 refine c_condF (cb d1) (wp_skip (c_sr (pl_val (.agg #[(.int .i64 a_.1), (.slice pa0 pn0 pc0)]) (y_load rfl ((box_load Ag35 Sz35 a1 [] [(.int .i64 a_.1), (.slice pa0 pn0 pc0)] [] rfl rfl (fun h => nomatch h)) _ (Chg.refl _ _))) (mi rfl (ms rfl (ms rfl ?_))))))
 obtain ⟨r20, g5, hs⟩ := bind_some hs
 refine pl_call Bd53 rfl (c_spec_l8Terms (M := (Past M a0 a2)) (a_.1, a_.2) k gens r14.1 h0 h1 c0 hO.fut g5) ?_
 rintro _ k8 ⟨a3, a4, a5, f0, rfl, b5, g6, g7⟩
 have h0 := h0.ext b5
 have h1 := h1.ext b5
 have a1 := a1.cn b5
 have c0 := c0.ext b5
 have hC := hC.ext b5
 have hO := Own.join0 hO b5 g7
 have hO := hO.perm (R := f0 ++ (([c8]) ++ ([]))) (by simp)
 refine ax rfl (c_nil (c_seq (c_sr (ai rfl (c_nil ?_)))))
 have hO := hO.fr1
 have hO := hO.drop
 obtain ⟨o105, g8, hs⟩ := bind_some hs
 refine wp_block (wp_iter (id := 0) (I := fun s101 a a7 => ∃ (σ : Nat → Value) (a9 : List Nat), a = fr 60 (ovl σ [(10, (.slice a3 a4 a5)), (11, (.int .i64 s101.1))]) ∧ Chg [] w a7 ∧ Own (Nw w []) (Past M a0 a2) a7 (a9 ++ []) ∧ (RT.os 43 (RT.os 3 ri)).val (Past M a0 a2) a7 (.slice a3 a4 a5) s101.2 a9) (J := fun s101 a a7 => ∃ (σ : Nat → Value) (c5 : List Nat), a = fr 60 (ovl σ [(10, (.slice a3 a4 a5))]) ∧ Chg [] w a7 ∧ Own (Nw w []) (Past M a0 a2) a7 (c5 ++ []) ∧ (RT.os 43 (RT.os 3 ri)).val (Past M a0 a2) a7 (.slice a3 a4 a5) s101.2 c5) (K := (k_spec_TermsFor M w)) ?_ FU (0, r20) o105 _ _ ?_ g8 ?_)
 ·rintro s101 o105 a a7 ⟨σ, a9, rfl, hC, hO, a6⟩ hs
  refine c_seq (c_sr (mi rfl (ms rfl (pl_val _ (y_len' Sl25 (os_len a6) rfl) (pl_val _ (y_lss rfl rfl) (c_nil ?_))))))
  rcases bif_some hs with ⟨d3, hs⟩ | ⟨d3, hs⟩
  ·refine c_condT (cb d3) (wp_skip (c_seq (wp_block (c_seq (c_sr (ms rfl (mi rfl ?_)))))))
   obtain ⟨x110, g9, hs⟩ := bind_some hs
   obtain ⟨h2, k9, l0, l1, h3, h4, h5⟩ := os_idx Sl25 Sz43 a6 g9
   have h6 := own_row (Frz.os Frz.int) h4 h5
   refine pl_val _ (h3 _ _ _ _ _ _ _ _ _ rfl rfl) ?_
   obtain ⟨l2, h7, hrow112, f1⟩ := at_load1 Ag43 Sz43 rfl rfl h6
   obtain ⟨h8, h9, i0, rfl⟩ := rs_sl f1
   refine pl_val (.slice h8 h9 i0) (y_load rfl (h7 _ (Chg.refl _ _))) (pl_val _ (y_len' Sl43 (rs_len f1) rfl) (pl_val (.bool ((x110.length : Int) == 0)) (y_eql rfl rfl) (c_nil ?_)))
   rcases bif_some hs with ⟨d4, hs⟩ | ⟨d4, hs⟩
   ·refine c_condT (cb d4) (c_sr ?_)
    obtain ⟨f2, b6, i1, f3, d5, f4⟩ := new_block a7 [] 43
    refine pl_val (w' := f2) (.slice (some ⟨b6, 0, none⟩) 0 0) (y_bslice rfl (by rw [i1, f3]; kernel_rfl)) ?_
    have a6 := a6.ext d5
    have hC := hC.ext d5
    have hO := hO.new1 d5 f3 f4.lt
    have d6 := os_of_box (r := (RT.os 3 ri)) (M := (Past M a0 a2)) (css := []) (fps := []) (xs := ([] : List (List Int))) f4 trivial (Nat.zero_le _) (List.nodup_cons.2 ⟨(fun h => nomatch h), List.nodup_nil⟩)
    have d6 : (RT.os 43 (RT.os 3 ri)).val (Past M a0 a2) f2 (.slice (some ⟨b6, 0, none⟩) 0 0) [] [b6] := d6
    refine ax rfl (ab rfl (c_nil (wp_ret ?_)))
    cases hs
    have hO := hO.fr1
    have hO := hO.drop
    exact ⟨_, (some ⟨b6, 0, none⟩), 0, 0, ([b6]), fr_ovl 60 ⟨rfl, rfl, trivial⟩, hC, (d6.free (Free.os (Free.os Free.int))), hO.top⟩
   refine c_condF (cb d4) (wp_skip (c_region (ms rfl (mi rfl (ms rfl (mi rfl ?_))))))
   obtain ⟨x117, i2, hs⟩ := bind_some hs
   obtain ⟨i3, l3, l4, l5, i4, d7, i5⟩ := os_idx Sl25 Sz43 a6 i2
   have d8 := own_row (Frz.os Frz.int) d7 i5
   refine pl_val _ (i4 _ _ _ _ _ _ _ _ _ rfl rfl) ?_
   obtain ⟨l6, i6, hrow119, c6⟩ := at_load1 Ag43 Sz43 rfl rfl d8
   obtain ⟨i7, i9, j0, rfl⟩ := rs_sl c6
   refine pl_val (.slice i7 i9 j0) (y_load rfl (i6 _ (Chg.refl _ _))) ?_
   obtain ⟨r122, j1, hs⟩ := bind_some hs
   refine pl_call Bd54 rfl (c_spec_l1Own (M := (Less (Past M a0 a2) a9)) x117 c6 hO.less.fut j1) ?_
   rintro _ l7 ⟨j2, j3, j4, d9, rfl, b0, e0, j5⟩
   have a6 := a6.ext b0
   have c6 := c6.ext b0
   have hrow119 := hrow119.cn b0
   have d7 := at_ext d7 b0
   have d8 := at_ext d8 b0
   have hC := hC.ext b0
   have hO := Own.join0 hO b0 j5
   have hO := hO.perm (R := d9 ++ (a9 ++ ([]))) (by simp)
   have e0 := e0.free (M' := (Past M a0 a2)) (Free.os Free.int)
   obtain ⟨x124, j6, hs⟩ := bind_some hs
   obtain ⟨f5, l8, f6, j7, j8, j9, k0⟩ := os_idx Sl25 Sz43 a6 j6
   have l9 := own_row (Frz.os Frz.int) j9 k0
   refine pl_val _ (j8 _ _ _ _ _ _ _ _ _ rfl rfl) ?_
   have hO := hO.fr1
   obtain ⟨k1, k2, k3, f7, k4, e1⟩ := os_store (P := Try.prog) (c' := [(.slice j2 j3 j4)]) f6 a6 j7 (fun g hg => hO.inM g (os_block a6 g (by simpa using hg))) (os_unval e0) (hO.drop.perm (R := d9 ++ ([])) (by simp)).nd (fun g hg hq => hO.apart g hq (by simp only [List.mem_append, List.not_mem_nil, false_or, or_false] at hg ⊢; simp [hg])) (fun _ h => .inl h)
   have k5 : ∀ q ∈ [f5], q ∈ a9 := fun q hq => os_block a6 q (by rw [f6]; exact hq)
   refine pl_skip (w' := k1) (ys_store rfl rfl (k3 _ _ rfl Sz43)) ?_
   have hO := hO.fr1
   have hO := hO.fr1
   have hC := hC.st f7 hO k5
   have hO := hO.perm (R := a9 ++ (d9 ++ ([]))) (by simp)
   have hO := hO.eat f7 (fun q hq => (k4 q hq).elim .inl (fun h => .inr (.inl h))) (os_nodup e1) e1.fpl
   refine c_nil (c_region (mi rfl (pl_val (.int .i64 (w64 (s101.1 + 1))) (y_add rfl rfl) (ai rfl (c_nil ?_)))))
   cases hs
   exact ⟨_, k2, fr_ovl 60 ⟨rfl, rfl, trivial⟩, hC, hO, e1⟩
  refine c_condF (cb d3) (wp_exit ?_)
  cases hs
  exact ⟨rfl, _, a9, fr_ovl 60 ⟨rfl, trivial⟩, hC, hO, a6⟩
 ·skip
  exact ⟨_, f0, fr_ovl 60 ⟨rfl, rfl, trivial⟩, hC, hO, g6⟩
 cases o105 with
 | nx _ => exact True.intro
 | rt r_ =>
  have hs := after_rt hs
  intro e3 f8 hK
  cases hs
  exact hK
 | br s101 =>
  have hs := after_br hs
  rintro e3 a7 ⟨σ, c5, rfl, hC, hO, k6⟩
  refine c_sr (ms rfl (ax rfl (ab rfl (c_nil (wp_ret ?_)))))
  cases hs
  exact ⟨_, a3, a4, a5, c5, fr_ovl 60 ⟨rfl, rfl, trivial⟩, hC, (k6.free (Free.os (Free.os Free.int))), hO.top⟩

def k_impl_power (M : Nat → Prop) (w0 : World) (r : Int) (a : Act) (w : World) : Prop :=
  ∃ (σ : Nat → Value) , a = fr 14 (ovl σ [(4, (.int .i64 r))]) ∧ Chg [] w0 w
def s_impl_power (n : Int) (k : Int) : Option (Int) :=
  (iter (S := Int × Int) (R := Int) (fun s2 =>
  (bif (decide (0 < s2.1)) then some (.nx (w64 (s2.1 - 1), w64 (s2.2 * n))) else some (.br (s2.1, s2.2)))) FU (k, 1)).bind fun o6 => after o6 (fun r_ => some r_) (fun s2 =>
  some s2.2)
set_option maxHeartbeats 4000000 in
theorem c_impl_power {M : Nat → Prop} {w : World}  (n : Int) (k : Int)  (hM : ∀ g, w.heap.size ≤ g → M g) {r : Int} (hs : s_impl_power n k = some r) :
    Gives Try.prog 88 [(.int .i64 n), (.int .i64 k)] w (fun v w' => v = (.int .i64 r) ∧ Chg [] w w') := by
 refine calls_fr Try.func88 rfl Try.ntmps88 (Nat.le_of_ble_eq_true rfl) ?_
 have hO := Own.start (N := Nw w []) hM Nw.fut
 have hC := Chg.refl [] w
 unfold s_impl_power at hs
 refine wp_mono (Q := KPost (k_impl_power M w r)) ?_ (fun e a a2 h => ?_)
 rotate_left
 ·cases e
  case ret =>
   obtain ⟨σ, rfl, hrest⟩ := h
   exact ret1x Try.results88 (res_tmp rfl) ⟨rfl, hrest⟩
  all_goals exact (h : False).elim
 refine c_sr (ai rfl (c_nil (c_sr (ai rfl (c_nil (c_seq ?_))))))
 obtain ⟨o6, a3, hs⟩ := bind_some hs
 refine wp_block (wp_iter (id := 0) (I := fun s2 a a0 => ∃ (σ : Nat → Value), a = fr 14 (ovl σ [(0, (.int .i64 n)), (1, (.int .i64 s2.1)), (5, (.int .i64 s2.2))]) ∧ Chg [] w a0 ∧ Own (Nw w []) M a0 ([])) (J := fun s2 a a0 => ∃ (σ : Nat → Value), a = fr 14 (ovl σ [(5, (.int .i64 s2.2))]) ∧ Chg [] w a0 ∧ Own (Nw w []) M a0 ([])) (K := (k_impl_power M w)) ?_ FU (k, 1) o6 _ _ ?_ a3 ?_)
 ·rintro s2 o6 a a0 ⟨σ, rfl, hC, hO⟩ hs
  refine c_seq (c_sr (mi rfl (pl_val _ (y_gtr rfl rfl) (c_nil ?_))))
  rcases bif_some hs with ⟨a1, hs⟩ | ⟨a1, hs⟩
  ·refine c_condT (cb a1) (wp_skip (c_seq (wp_block (c_region (mi rfl (mi rfl (pl_val (.int .i64 (w64 (s2.2 * n))) (y_mul rfl rfl) (ai rfl (c_nil (c_region (mi rfl (pl_val (.int .i64 (w64 (s2.1 - 1))) (y_sub rfl rfl) (ai rfl (c_nil ?_))))))))))))))
   cases hs
   exact ⟨_, fr_ovl 14 ⟨rfl, rfl, rfl, trivial⟩, hC, hO⟩
  refine c_condF (cb a1) (wp_exit ?_)
  cases hs
  exact ⟨rfl, _, fr_ovl 14 ⟨rfl, trivial⟩, hC, hO⟩
 ·skip
  exact ⟨_, fr_ovl 14 ⟨rfl, rfl, rfl, trivial⟩, hC, hO⟩
 cases o6 with
 | nx _ => exact True.intro
 | rt r_ =>
  have hs := after_rt hs
  intro a4 a2 hK
  cases hs
  exact hK
 | br s2 =>
  have hs := after_br hs
  rintro a4 a0 ⟨σ, rfl, hC, hO⟩
  refine c_sr (mi rfl (ai rfl (c_nil (wp_ret ?_))))
  cases hs
  exact ⟨_, fr_ovl 14 ⟨rfl, trivial⟩, hC⟩

def k_impl_inSize (M : Nat → Prop) (w0 : World) (r : Bool) (a : Act) (w : World) : Prop :=
  ∃ (σ : Nat → Value) , a = fr 21 (ovl σ [(4, (.bool r))]) ∧ Chg [] w0 w
def s_impl_inSize (list : List Int) (n : Int) : Option (Bool) :=
  (forR (S := Unit) (R := Bool) (fun _ x8 s5 =>
  (bif (decide (x8 < 0)) then some (.rt false) else (bif (decide (n ≤ x8)) then some (.rt false) else some (.nx ())))) 0 list ()).bind fun o9 => after o9 (fun r_ => some r_) (fun s5 =>
  some true)
set_option maxHeartbeats 4000000 in
theorem c_impl_inSize {M : Nat → Prop} {w : World} {pa0 : Option Addr} {pn0 pc0 : Nat} (list : List Int) (n : Int) (h0 : (RT.rs ri).val M w (.slice pa0 pn0 pc0) list ([])) (hM : ∀ g, w.heap.size ≤ g → M g) {r : Bool} (hs : s_impl_inSize list n = some r) :
    Gives Try.prog 77 [(.slice pa0 pn0 pc0), (.int .i64 n)] w (fun v w' => v = (.bool r) ∧ Chg [] w w') := by
 refine calls_fr Try.func77 rfl Try.ntmps77 (Nat.le_of_ble_eq_true rfl) ?_
 have hO := Own.start (N := Nw w []) hM Nw.fut
 have hC := Chg.refl [] w
 unfold s_impl_inSize at hs
 refine wp_mono (Q := KPost (k_impl_inSize M w r)) ?_ (fun e a a4 h => ?_)
 rotate_left
 ·cases e
  case ret =>
   obtain ⟨σ, rfl, hrest⟩ := h
   exact ret1x Try.results77 (res_tmp rfl) ⟨rfl, hrest⟩
  all_goals exact (h : False).elim
 refine c_sr (ab rfl (c_nil (c_seq (c_sr (ms rfl (pl_val _ (y_len' Sl43 (rs_len h0) rfl) (mi rfl (c_nil ?_))))))))
 obtain ⟨o9, a5, hs⟩ := bind_some hs
 refine wp_block (wp_forR (id := 0) (I := fun i_ xs_ s5 a a0 => ∃ a1 : Nat, i_ = (a1 : Int) ∧ List.drop a1 list = xs_ ∧ (∃ (σ : Nat → Value), a = fr 21 (ovl σ [(1, (.int .i64 n)), (7, (.slice pa0 pn0 pc0)), (8, (.int .i64 (list.length : Int))), (9, (.int .i64 (a1 : Int)))]) ∧ Chg [] w a0 ∧ Own (Nw w []) M a0 ([]) ∧ (RT.rs ri).val M a0 (.slice pa0 pn0 pc0) list ([]))) (J := fun s5 a a0 => ∃ (σ : Nat → Value), a = fr 21 (ovl σ []) ∧ Chg [] w a0 ∧ Own (Nw w []) M a0 ([]) ∧ (RT.rs ri).val M a0 (.slice pa0 pn0 pc0) list ([])) (K := (k_impl_inSize M w)) ?_ ?_ list 0 () o9 _ _ ?_ a5 ?_)
 ·rintro _ s5 a a0 ⟨a1, rfl, hd, σ, rfl, hC, hO, h0⟩
  have hlt := drop_nil_ge hd
  refine c_sr (pl_val _ (y_lss rfl rfl) (c_nil (c_seq (c_condF (cb (decide_eq_false hlt)) (wp_exit ?_)))))
  exact ⟨rfl, _, fr_ovl 21 trivial, hC, hO, h0⟩
 ·rintro _ x8 xs_ s5 o9 a a0 ⟨a1, rfl, hd, σ, rfl, hC, hO, h0⟩ hs
  have hlt := drop_cons_lt hd
  have a6 := drop_cons_idx hd
  refine c_sr (pl_val _ (y_lss rfl rfl) (c_nil (c_seq (c_condT (cb (decide_eq_true hlt)) (wp_skip (c_seq (wp_block (c_sr ?_))))))))
  obtain ⟨a7, a8, a9, b0⟩ := rs_idx Sl43 Sz3 h0 a6
  refine pl_val _ (a9 _ _ _ _ _ _ _ _ _ rfl rfl) (pl_val (.int .i64 x8) (y_load rfl ((at_load_int Ag3 Sz3 b0) _ (Chg.refl _ _))) (ai rfl (c_nil (c_sr (mi rfl (pl_val _ (y_lss rfl rfl) (mb rfl ?_)))))))
  rcases bif_some hs with ⟨a2, hs⟩ | ⟨a2, hs⟩
  ·skip
   refine pl_not (tg := 15) (by kernel_rfl) (cb a2) (pl_not (tg := 15) (by kernel_rfl) (cb a2) (pl_not (tg := 15) (by kernel_rfl) (cb a2) (pl_val (.bool true) (y_pick_t (cb a2) rfl) (c_nil (c_condT (by rfl) (c_sr (ab rfl (c_nil (wp_ret ?_)))))))))
   cases hs
   exact ⟨_, fr_ovl 21 ⟨rfl, trivial⟩, hC⟩
  refine pl_yes (.int .i64 x8) (tg := 15) (by kernel_rfl) (cb a2) (y_move rfl) (pl_yes (.int .i64 n) (tg := 15) (by kernel_rfl) (cb a2) (y_move rfl) (pl_yes (.bool (decide (n ≤ x8))) (tg := 15) (by kernel_rfl) (cb a2) (y_geq rfl rfl) (pl_val (.bool (decide (n ≤ x8))) (y_pick_f (cb a2) rfl) (c_nil ?_))))
  rcases bif_some hs with ⟨a3, hs⟩ | ⟨a3, hs⟩
  ·refine c_condT (cb a3) (c_sr (ab rfl (c_nil (wp_ret ?_))))
   cases hs
   exact ⟨_, fr_ovl 21 ⟨rfl, trivial⟩, hC⟩
  refine c_condF (cb a3) (wp_skip (c_region (pl_val (.int .i64 (w64 ((a1 : Int) + 1))) (y_add rfl rfl) (mi rfl (c_nil ?_)))))
  cases hs
  exact ⟨_, rfl, drop_cons_next hd, _, fr_ovl 21 ⟨rfl, rfl, rfl, congrArg (Value.int .i64) (w64_succ hlt (Int.natCast_nonneg _) (rs_max h0)), trivial⟩, hC, hO, h0⟩
 ·skip
  exact ⟨0, rfl, rfl, _, fr_ovl 21 ⟨rfl, rfl, rfl, rfl, trivial⟩, hC, hO, h0⟩
 cases o9 with
 | nx _ => exact True.intro
 | rt r_ =>
  have hs := after_rt hs
  intro b1 a4 hK
  cases hs
  exact hK
 | br s5 =>
  have hs := after_br hs
  rintro b1 a0 ⟨σ, rfl, hC, hO, h0⟩
  refine c_sr (ab rfl (c_nil (wp_ret ?_)))
  cases hs
  exact ⟨_, fr_ovl 21 ⟨rfl, trivial⟩, hC⟩

theorem Bd88 : Bodied Try.prog 88 := bodied Try.func88 (by kernel_rfl) rfl

theorem Bd77 : Bodied Try.prog 77 := bodied Try.func77 (by kernel_rfl) rfl

def k_impl_isOp (M : Nat → Prop) (w0 : World) (r : Bool) (a : Act) (w : World) : Prop :=
  ∃ (σ : Nat → Value) , a = fr 29 (ovl σ [(4, (.bool r))]) ∧ Chg [] w0 w
def s_impl_isOp (f : Int × (List Int)) (n : Int) : Option (Bool) :=
  (bif (decide (0 ≤ f.1)) then (bif (decide (f.1 ≤ 3)) then (s_impl_power n f.1).bind fun r7 =>
  (bif ((f.2.length : Int) == r7) then (s_impl_inSize f.2 n).bind fun r10 =>
  some r10 else some false) else some false) else some false)
set_option maxHeartbeats 4000000 in
theorem c_impl_isOp {M : Nat → Prop} {w : World} {pa0 : Option Addr} {pn0 pc0 : Nat} (f : Int × (List Int)) (n : Int) (h0 : (RT.rs ri).val M w (.slice pa0 pn0 pc0) f.2 ([])) (hM : ∀ g, w.heap.size ≤ g → M g) {r : Bool} (hs : s_impl_isOp f n = some r) :
    Gives Try.prog 76 [(.agg #[(.int .i64 f.1), (.slice pa0 pn0 pc0)]), (.int .i64 n)] w (fun v w' => v = (.bool r) ∧ Chg [] w w') := by
 refine calls_fr Try.func76 rfl Try.ntmps76 (Nat.le_of_ble_eq_true rfl) ?_
 have hO := Own.start (N := Nw w []) hM Nw.fut
 have hC := Chg.refl [] w
 unfold s_impl_isOp at hs
 refine wp_mono (Q := KPost (k_impl_isOp M w r)) ?_ (fun e a b5 h => ?_)
 rotate_left
 ·cases e
  case ret =>
   obtain ⟨σ, rfl, hrest⟩ := h
   exact ret1x Try.results76 (res_tmp rfl) ⟨rfl, hrest⟩
  all_goals exact (h : False).elim
 refine c_sr ?_
 obtain ⟨a8, a6, b1, b0, a9, a1⟩ := new_block w [(.int .i64 f.1), (.slice pa0 pn0 pc0)] 89
 refine pl_val (w' := a8) (pq a6 0) (y_box rfl (by rw [b1, b0]; kernel_rfl)) ?_
 have h0 := h0.ext a9
 have hC := hC.ext a9
 have hO := hO.new1 a9 b0 a1.lt
 refine ab rfl (c_nil (c_seq (x_start [] Mx rfl ?_)))
 have a7 := Chg.drew a8
 generalize World.drew a8 = b2 at a7 ⊢
 have h0 := h0.ext a7
 have a1 := a1.cn a7
 have hC := hC.ext a7
 have hO := hO.ext a7
 have hS := Chg.refl [] b2
 refine x_p 0 (pq a6 0) rfl (by kernel_rfl)  (fun _ => y_faddr rfl Fa89x0) (fun _ => hS) (x_l 1 (.int .i64 f.1) rfl (by kernel_rfl)  (fun w' hw' => y_load rfl ((box_load Ag3 Sz3 a1 [] [(.int .i64 f.1)] [(.slice pa0 pn0 pc0)] rfl rfl (fun _ => rfl)) w' hw')) hS (x_p 2 (.bool (decide (0 ≤ f.1))) rfl (by kernel_rfl)  (fun _ => y_geq rfl rfl) (fun _ => hS) (x_p 3 (.bool (decide (0 ≤ f.1))) rfl (by kernel_rfl)  (fun _ => y_move rfl) (fun _ => hS) ?_)))
 rcases bif_some hs with ⟨a3, hs⟩ | ⟨a3, hs⟩
 ·skip
  refine x_py 4 (pq a6 0) rfl (by kernel_rfl) (tg := 8) (by kernel_rfl) (cb a3) (fun _ => y_faddr rfl Fa89x0) (fun _ => hS) (x_ly 5 (.int .i64 f.1) rfl (by kernel_rfl) (tg := 8) (by kernel_rfl) (cb a3) (fun w' hw' => y_load rfl ((box_load Ag3 Sz3 a1 [] [(.int .i64 f.1)] [(.slice pa0 pn0 pc0)] rfl rfl (fun _ => rfl)) w' hw')) hS (x_py 6 (.bool (decide (f.1 ≤ 3))) rfl (by kernel_rfl) (tg := 8) (by kernel_rfl) (cb a3) (fun _ => y_leq rfl rfl) (fun _ => hS) (x_p 7 (.bool (decide (f.1 ≤ 3))) rfl (by kernel_rfl)  (fun _ => y_pick_t (cb a3) rfl) (fun _ => hS) (x_p 8 (.bool (decide (f.1 ≤ 3))) rfl (by kernel_rfl)  (fun _ => y_move rfl) (fun _ => hS) ?_))))
  rcases bif_some hs with ⟨a0, hs⟩ | ⟨a0, hs⟩
  ·skip
   refine x_py 9 (pq a6 1) rfl (by kernel_rfl) (tg := 13) (by kernel_rfl) (cb a0) (fun _ => y_faddr rfl Fa89x1) (fun _ => hS) (x_ly 10 (.slice pa0 pn0 pc0) rfl (by kernel_rfl) (tg := 13) (by kernel_rfl) (cb a0) (fun w' hw' => y_load rfl ((box_load Ag43 Sz43 a1 [(.int .i64 f.1)] [(.slice pa0 pn0 pc0)] [] rfl rfl (fun _ => rfl)) w' hw')) hS (x_py 11 (.int .i64 (f.2.length : Int)) rfl (by kernel_rfl) (tg := 13) (by kernel_rfl) (cb a0) (fun _ => y_len' Sl43 (rs_len h0) rfl) (fun _ => hS) (x_py 12 (.int .i64 n) rfl (by kernel_rfl) (tg := 13) (by kernel_rfl) (cb a0) (fun _ => y_move rfl) (fun _ => hS) (x_py 13 (pq a6 0) rfl (by kernel_rfl) (tg := 13) (by kernel_rfl) (cb a0) (fun _ => y_faddr rfl Fa89x0) (fun _ => hS) (x_ly 14 (.int .i64 f.1) rfl (by kernel_rfl) (tg := 13) (by kernel_rfl) (cb a0) (fun w' hw' => y_load rfl ((box_load Ag3 Sz3 a1 [] [(.int .i64 f.1)] [(.slice pa0 pn0 pc0)] rfl rfl (fun _ => rfl)) w' hw')) hS (x_one (i := 15) (by kernel_rfl) ?_))))))
   obtain ⟨r7, b3, hs⟩ := bind_some hs
   refine xk_cally (b := false) rfl (tg := 13) (by kernel_rfl) (cb a0) Bd88 rfl (c_impl_power (M := M) n f.1  hO.fut b3) rfl (by rintro _ _ _ ⟨rfl, a4⟩; exact hS.ext a4) ?_
   rintro _ b6 ⟨rfl, a4⟩
   have h0 := h0.ext a4
   have a1 := a1.cn a4
   have hC := hC.ext a4
   have hO := hO.ext a4
   have hS := hS.ext a4
   refine x_py 16 (.bool ((f.2.length : Int) == r7)) rfl (by kernel_rfl) (tg := 13) (by kernel_rfl) (cb a0) (fun _ => y_eql rfl rfl) (fun _ => hS) (x_p 17 (.bool ((f.2.length : Int) == r7)) rfl (by kernel_rfl)  (fun _ => y_pick_t (cb a0) rfl) (fun _ => hS) (x_p 18 (.bool ((f.2.length : Int) == r7)) rfl (by kernel_rfl)  (fun _ => y_move rfl) (fun _ => hS) ?_))
   rcases bif_some hs with ⟨a2, hs⟩ | ⟨a2, hs⟩
   ·skip
    refine x_py 19 (pq a6 1) rfl (by kernel_rfl) (tg := 23) (by kernel_rfl) (cb a2) (fun _ => y_faddr rfl Fa89x1) (fun _ => hS) (x_py 21 (.int .i64 n) rfl (by kernel_rfl) (tg := 23) (by kernel_rfl) (cb a2) (fun _ => y_move rfl) (fun _ => hS) (x_one (i := 20) (by kernel_rfl) (xk_valy (b := false) (.slice pa0 pn0 pc0) rfl (tg := 23) (by kernel_rfl) (cb a2) (y_load rfl ((box_load Ag43 Sz43 a1 [(.int .i64 f.1)] [(.slice pa0 pn0 pc0)] [] rfl rfl (fun _ => rfl)) _ (Chg.refl _ _))) rfl (fun _ => hS) (x_one (i := 22) (by kernel_rfl) ?_))))
    obtain ⟨r10, b4, hs⟩ := bind_some hs
    refine xk_cally (b := false) rfl (tg := 23) (by kernel_rfl) (cb a2) Bd77 rfl (c_impl_inSize (M := M) f.2 n h0 hO.fut b4) rfl (by rintro _ _ _ ⟨rfl, a5⟩; exact hS.ext a5) ?_
    rintro _ b7 ⟨rfl, a5⟩
    have h0 := h0.ext a5
    have a1 := a1.cn a5
    have hC := hC.ext a5
    have hO := hO.ext a5
    have hS := hS.ext a5
    refine x_p 23 (.bool r10) rfl (by kernel_rfl)  (fun _ => y_pick_t (cb a2) rfl) (fun _ => hS) (x_p 24 (.bool r10) rfl (by kernel_rfl)  (fun _ => y_assign rfl) (fun _ => hS) (x_end (by kernel_rfl) ?_))
    clear hS
    refine wp_ret ?_
    cases hs
    exact ⟨_, fr_ovl 29 ⟨rfl, trivial⟩, hC⟩
   refine x_pn 19 rfl (by kernel_rfl) (tg := 23) (by kernel_rfl) (cb a2) (fun _ => hS) (x_pn 20 rfl (by kernel_rfl) (tg := 23) (by kernel_rfl) (cb a2) (fun _ => hS) (x_pn 21 rfl (by kernel_rfl) (tg := 23) (by kernel_rfl) (cb a2) (fun _ => hS) (x_pn 22 rfl (by kernel_rfl) (tg := 23) (by kernel_rfl) (cb a2) (fun _ => hS) (x_p 23 (.bool false) rfl (by kernel_rfl)  (fun _ => y_pick_f (cb a2) rfl) (fun _ => hS) (x_p 24 (.bool false) rfl (by kernel_rfl)  (fun _ => y_assign rfl) (fun _ => hS) (x_end (by kernel_rfl) ?_))))))
   clear hS
   refine wp_ret ?_
   cases hs
   exact ⟨_, fr_ovl 29 ⟨rfl, trivial⟩, hC⟩
  refine x_pn 9 rfl (by kernel_rfl) (tg := 13) (by kernel_rfl) (cb a0) (fun _ => hS) (x_pn 10 rfl (by kernel_rfl) (tg := 13) (by kernel_rfl) (cb a0) (fun _ => hS) (x_pn 11 rfl (by kernel_rfl) (tg := 13) (by kernel_rfl) (cb a0) (fun _ => hS) (x_pn 12 rfl (by kernel_rfl) (tg := 13) (by kernel_rfl) (cb a0) (fun _ => hS) (x_pn 13 rfl (by kernel_rfl) (tg := 13) (by kernel_rfl) (cb a0) (fun _ => hS) (x_pn 14 rfl (by kernel_rfl) (tg := 13) (by kernel_rfl) (cb a0) (fun _ => hS) (x_pn 15 rfl (by kernel_rfl) (tg := 13) (by kernel_rfl) (cb a0) (fun _ => hS) (x_pn 16 rfl (by kernel_rfl) (tg := 13) (by kernel_rfl) (cb a0) (fun _ => hS) (x_p 17 (.bool false) rfl (by kernel_rfl)  (fun _ => y_pick_f (cb a0) rfl) (fun _ => hS) (x_p 18 (.bool false) rfl (by kernel_rfl)  (fun _ => y_move rfl) (fun _ => hS) (x_pn 19 rfl (by kernel_rfl) (tg := 23) (by kernel_rfl) (by rfl) (fun _ => hS) (x_pn 20 rfl (by kernel_rfl) (tg := 23) (by kernel_rfl) (by rfl) (fun _ => hS) (x_pn 21 rfl (by kernel_rfl) (tg := 23) (by kernel_rfl) (by rfl) (fun _ => hS) (x_pn 22 rfl (by kernel_rfl) (tg := 23) (by kernel_rfl) (by rfl) (fun _ => hS) (x_p 23 (.bool false) rfl (by kernel_rfl)  (fun _ => y_pick_f (by rfl) rfl) (fun _ => hS) (x_p 24 (.bool false) rfl (by kernel_rfl)  (fun _ => y_assign rfl) (fun _ => hS) (x_end (by kernel_rfl) ?_))))))))))))))))
  clear hS
  refine wp_ret ?_
  cases hs
  exact ⟨_, fr_ovl 29 ⟨rfl, trivial⟩, hC⟩
 refine x_pn 4 rfl (by kernel_rfl) (tg := 8) (by kernel_rfl) (cb a3) (fun _ => hS) (x_pn 5 rfl (by kernel_rfl) (tg := 8) (by kernel_rfl) (cb a3) (fun _ => hS) (x_pn 6 rfl (by kernel_rfl) (tg := 8) (by kernel_rfl) (cb a3) (fun _ => hS) (x_p 7 (.bool false) rfl (by kernel_rfl)  (fun _ => y_pick_f (cb a3) rfl) (fun _ => hS) (x_p 8 (.bool false) rfl (by kernel_rfl)  (fun _ => y_move rfl) (fun _ => hS) (x_pn 9 rfl (by kernel_rfl) (tg := 13) (by kernel_rfl) (by rfl) (fun _ => hS) (x_pn 10 rfl (by kernel_rfl) (tg := 13) (by kernel_rfl) (by rfl) (fun _ => hS) (x_pn 11 rfl (by kernel_rfl) (tg := 13) (by kernel_rfl) (by rfl) (fun _ => hS) (x_pn 12 rfl (by kernel_rfl) (tg := 13) (by kernel_rfl) (by rfl) (fun _ => hS) (x_pn 13 rfl (by kernel_rfl) (tg := 13) (by kernel_rfl) (by rfl) (fun _ => hS) (x_pn 14 rfl (by kernel_rfl) (tg := 13) (by kernel_rfl) (by rfl) (fun _ => hS) (x_pn 15 rfl (by kernel_rfl) (tg := 13) (by kernel_rfl) (by rfl) (fun _ => hS) (x_pn 16 rfl (by kernel_rfl) (tg := 13) (by kernel_rfl) (by rfl) (fun _ => hS) (x_p 17 (.bool false) rfl (by kernel_rfl)  (fun _ => y_pick_f (by rfl) rfl) (fun _ => hS) (x_p 18 (.bool false) rfl (by kernel_rfl)  (fun _ => y_move rfl) (fun _ => hS) (x_pn 19 rfl (by kernel_rfl) (tg := 23) (by kernel_rfl) (by rfl) (fun _ => hS) (x_pn 20 rfl (by kernel_rfl) (tg := 23) (by kernel_rfl) (by rfl) (fun _ => hS) (x_pn 21 rfl (by kernel_rfl) (tg := 23) (by kernel_rfl) (by rfl) (fun _ => hS) (x_pn 22 rfl (by kernel_rfl) (tg := 23) (by kernel_rfl) (by rfl) (fun _ => hS) (x_p 23 (.bool false) rfl (by kernel_rfl)  (fun _ => y_pick_f (by rfl) rfl) (fun _ => hS) (x_p 24 (.bool false) rfl (by kernel_rfl)  (fun _ => y_assign rfl) (fun _ => hS) (x_end (by kernel_rfl) ?_)))))))))))))))))))))
 clear hS
 refine wp_ret ?_
 cases hs
 exact ⟨_, fr_ovl 29 ⟨rfl, trivial⟩, hC⟩

theorem Bd76 : Bodied Try.prog 76 := bodied Try.func76 (by kernel_rfl) rfl

end Go.Proofs
