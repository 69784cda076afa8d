/- What functions of the program compute, as plain functions, and that a call gives just that. Conditions: those named in each theorem. -/
import Derived.Test.YtlfpejnpjpmejaaF0
set_option linter.unusedVariables false
namespace Go.Proofs
open Go.G Go.RowKit
set_option maxRecDepth 100000

def k_spec_l8Close (M : Nat → Prop) (w0 : World) (r : (List (List Int)) × Bool) (a : Act) (w : World) : Prop :=
  ∃ (σ : Nat → Value) (ra0 : Option Addr) (rn0 rc0 : Nat), a = fr 172 (ovl σ [(6, (.slice ra0 rn0 rc0)), (7, (.bool r.2))]) ∧ Chg [] w0 w ∧ (RT.rs (RT.rs (RT.int .i64))).val (Past M w0 w) w (.slice ra0 rn0 rc0) r.1 []
def s_spec_l8Close (a_ : Int × (List (Int × (List Int)))) (k : Int) (gens : List (List Int)) : Option ((List (List Int)) × Bool) :=
  (s_spec_l8Most (a_.1, a_.2)).bind fun r9 =>
  (forC (S := (List (List Int))) (R := (List (List Int)) × Bool) (fun k28 s26 =>
  (idx gens k28).bind fun x36 =>
  (s_spec_l1Own x36).bind fun r41 =>
  (app s26 ([r41])).bind fun y46 =>
  some (.nx y46)) 0 (gens.length : Int) ([])).bind fun o30 => after o30 (fun r_ => some r_) (fun s26 =>
  (forC (S := (List (List Int))) (R := (List (List Int)) × Bool) (fun k66 s64 =>
  (idx a_.2 k66).bind fun x74 =>
  (bif (x74.1 == 0) then (s_spec_l8Apply (a_.1, a_.2) k66 ([]) k).bind fun r81 =>
  (app s64 ([r81])).bind fun y86 =>
  some (.nx y86) else some (.nx s64))) 0 (a_.2.length : Int) s26).bind fun o68 => after o68 (fun r_ => some r_) (fun s64 =>
  (iter (S := (List (List Int)) × (List (List Int)) × Int) (R := (List (List Int)) × Bool) (fun s249 =>
  (bif (decide (s249.2.2 < (s64.length : Int))) then (idx s64 s249.2.2).bind fun x266 =>
  (s_spec_l8Find s249.1 x266).bind fun r271 =>
  (bif (!r271.2) then (idx s64 s249.2.2).bind fun x273 =>
  (s_spec_l8Put s249.1 x273).bind fun r278 =>
  (idx s64 s249.2.2).bind fun x280 =>
  (app s249.2.1 ([x280])).bind fun y287 =>
  some (.nx (r278, y287, w64 (s249.2.2 + 1))) else some (.nx (s249.1, s249.2.1, w64 (s249.2.2 + 1)))) else some (.br (s249.1, s249.2.1, s249.2.2)))) FU ([], [], 0)).bind fun o253 => after o253 (fun r_ => some r_) (fun s249 =>
  (iter (S := (List (List Int)) × (List (List Int)) × Int) (R := (List (List Int)) × Bool) (fun s2566 =>
  (bif ((decide (s2566.2.2 < (s2566.2.1.length : Int))) && (decide ((s2566.2.1.length : Int) ≤ r9))) then (forC (S := (List (List Int)) × (List (List Int))) (R := (List (List Int)) × Bool) (fun k3334 s3332 =>
  (idx a_.2 k3334).bind fun x3359 =>
  (idx a_.2 k3334).bind fun x3362 =>
  (mks x3359.1 (0 : Int)).bind fun y3366 =>
  (iter (S := (List (List Int)) × (List (List Int)) × (List Int) × Bool) (R := (List (List Int)) × Bool) (fun s3591 =>
  (bif (s3591.2.2.2 && (decide ((s3591.2.1.length : Int) ≤ r9))) then (s_spec_l1Has s3591.2.2.1 s2566.2.2).bind fun r3617 =>
  (bif r3617 then (s_spec_l8Choose__sh s3591.2.1 s3591.2.2.1).bind fun r3695 =>
  (s_spec_l8Apply (a_.1, a_.2) k3334 r3695 k).bind fun r3698 =>
  (s_spec_l8Find s3591.1 r3698).bind fun r3701 =>
  (bif (!r3701.2) then (s_spec_l8Put s3591.1 r3698).bind fun r3705 =>
  (app s3591.2.1 ([r3698])).bind fun y3710 =>
  some (r3705, y3710, s3591.2.2.1) else some (s3591.1, s3591.2.1, s3591.2.2.1)) else some (s3591.1, s3591.2.1, s3591.2.2.1)).bind fun s3674 =>
  (s_spec_l8Next s3674.2.2 (w64 (s2566.2.2 + 1))).bind fun r3714 =>
  some (.nx (s3674.1, s3674.2.1, r3714.1, r3714.2)) else some (.br (s3591.1, s3591.2.1, s3591.2.2.1, s3591.2.2.2)))) FU (s3332.1, s3332.2, y3366, (decide (0 < x3362.1)))).bind fun o3595 => after o3595 (fun r_ => some (.rt r_)) (fun s3591 =>
  some (.nx (s3591.1, s3591.2.1)))) 0 (a_.2.length : Int) (s2566.1, s2566.2.1)).bind fun o3336 => after o3336 (fun r_ => some (.rt r_)) (fun s3332 =>
  some (.nx (s3332.1, s3332.2, w64 (s2566.2.2 + 1)))) else some (.br (s2566.1, s2566.2.1, s2566.2.2)))) FU (s249.1, s249.2.1, 0)).bind fun o2570 => after o2570 (fun r_ => some r_) (fun s2566 =>
  some (s2566.1, (decide ((s2566.1.length : Int) ≤ r9)))))))
set_option maxHeartbeats 4000000 in
theorem c_spec_l8Close {M : Nat → Prop} {w : World} {pa0 : Option Addr} {pn0 pc0 : Nat} {pa1 : Option Addr} {pn1 pc1 : Nat} (a_ : Int × (List (Int × (List Int)))) (k : Int) (gens : List (List Int)) (h0 : (RT.rs (RT.pr (RT.int .i64) (RT.rs (RT.int .i64)))).val M w (.slice pa0 pn0 pc0) a_.2 ([])) (h1 : (RT.rs (RT.rs (RT.int .i64))).val M w (.slice pa1 pn1 pc1) gens ([])) (hM : ∀ g, w.heap.size ≤ g → M g) {r : (List (List Int)) × Bool} (hs : s_spec_l8Close a_ k gens = some r) :
    Gives Try.prog 69 [(.agg #[(.int .i64 a_.1), (.slice pa0 pn0 pc0)]), (.int .i64 k), (.slice pa1 pn1 pc1)] w (fun v w' => ∃ (ra0 : Option Addr) (rn0 rc0 : Nat), v = (.tuple #[(.slice ra0 rn0 rc0), (.bool r.2)]) ∧ Chg [] w w' ∧ (RT.rs (RT.rs (RT.int .i64))).val (Past M w w') w' (.slice ra0 rn0 rc0) r.1 []) := by
 refine calls_fr Try.func69 rfl Try.ntmps69 (Nat.le_of_ble_eq_true rfl) ?_
 have hO := Own.start (N := Nw w []) hM Nw.fut
 have hC := Chg.refl [] w
 unfold s_spec_l8Close at hs
 refine wp_mono (Q := KPost (k_spec_l8Close M w r)) ?_ (fun e a w1 h => ?_)
 rotate_left
 ·cases e
  case ret =>
   obtain ⟨σ, ra0, rn0, rc0, rfl, hrest⟩ := h
   exact ret2x Try.results69 (res_tmp rfl) (res_tmp rfl) ⟨ra0, rn0, rc0, rfl, hrest⟩
  all_goals exact (h : False).elim
 refine c_seq (c_region ?_)
 obtain ⟨w3, g3, ew3, eg3, hC3, hb3⟩ := new_block w [(.int .i64 a_.1), (.slice pa0 pn0 pc0)] 34
 refine pl_val (w' := w3) (.pointer (some ⟨g3, 0, none⟩)) (y_box rfl (by rw [ew3, eg3]; kernel_rfl)) ?_
 have h0 := h0.ext hC3
 have h1 := h1.ext hC3
 have hC := hC.ext hC3
 have hO := hO.new1 hC3 eg3 hb3.lt
 refine pl_val (.slice none 0 0) (y_assign rfl) ?_
 refine pl_val (.bool false) (y_assign rfl) ?_
 refine c_nil ?_
 refine c_seq (c_region ?_)
 obtain ⟨w4, g4, ew4, eg4, hC4, hb4⟩ := new_block w3 [] 25
 refine pl_val (w' := w4) (.slice (some ⟨g4, 0, none⟩) 0 0) (y_bslice rfl (by rw [ew4, eg4]; kernel_rfl)) ?_
 have h0 := h0.ext hC4
 have h1 := h1.ext hC4
 have hb3 := hb3.chg hC4 (fun h => nomatch h)
 have hC := hC.ext hC4
 have hO := hO.new1 hC4 eg4 hb4.lt
 have hv4 := os_of_box (r := (RT.os 3 (RT.int .i64))) (M := M) (css := []) (fps := []) (xs := ([] : List (List Int))) hb4 trivial (Nat.zero_le _) (List.nodup_cons.2 ⟨(fun h => nomatch h), List.nodup_nil⟩)
 have hv4 : (RT.os 25 (RT.os 3 (RT.int .i64))).val M w4 (.slice (some ⟨g4, 0, none⟩) 0 0) [] [g4] := hv4
 obtain ⟨w6, g6, ew6, eg6, hC6, hb6⟩ := new_block w4 [] 25
 refine pl_val (w' := w6) (.slice (some ⟨g6, 0, none⟩) 0 0) (y_bslice rfl (by rw [ew6, eg6]; kernel_rfl)) ?_
 have h0 := h0.ext hC6
 have h1 := h1.ext hC6
 have hb3 := hb3.chg hC6 (fun h => nomatch h)
 have hv4 := hv4.ext hC6
 have hC := hC.ext hC6
 have hO := hO.new1 hC6 eg6 hb6.lt
 have hv6 := os_of_box (r := (RT.os 3 (RT.int .i64))) (M := M) (css := []) (fps := []) (xs := ([] : List (List Int))) hb6 trivial (Nat.zero_le _) (List.nodup_cons.2 ⟨(fun h => nomatch h), List.nodup_nil⟩)
 have hv6 : (RT.os 25 (RT.os 3 (RT.int .i64))).val M w6 (.slice (some ⟨g6, 0, none⟩) 0 0) [] [g6] := hv6
 refine pl_val (.agg #[(.int .i64 a_.1), (.slice pa0 pn0 pc0)]) (y_load rfl ((box_load Ag34 Sz34 hb3 [] [(.int .i64 a_.1), (.slice pa0 pn0 pc0)] [] rfl rfl (fun h => nomatch h)) _ (Chg.refl _ _))) ?_
 obtain ⟨r9, hr9, hs⟩ := bind_some hs
 refine pl_call Bd81 rfl (c_spec_l8Most (M := M) (a_.1, a_.2) h0 hO.fut hr9) ?_
 rintro _ w8 ⟨rfl, hC8⟩
 have h0 := h0.ext hC8
 have h1 := h1.ext hC8
 have hb3 := hb3.chg hC8 (fun h => nomatch h)
 have hv4 := hv4.ext hC8
 have hv6 := hv6.ext hC8
 have hC := hC.ext hC8
 have hO := hO.ext hC8
 refine pl_val (.slice (some ⟨g4, 0, none⟩) 0 0) (y_assign rfl) ?_
 refine pl_val (.slice (some ⟨g6, 0, none⟩) 0 0) (y_assign rfl) ?_
 refine pl_val (.int .i64 r9) (y_assign rfl) ?_
 refine c_nil ?_
 refine c_seq (c_region ?_)
 obtain ⟨w10, g10, ew10, eg10, hC10, hb10⟩ := new_block w8 [] 25
 refine pl_val (w' := w10) (.slice (some ⟨g10, 0, none⟩) 0 0) (y_bslice rfl (by rw [ew10, eg10]; kernel_rfl)) ?_
 have h0 := h0.ext hC10
 have h1 := h1.ext hC10
 have hb3 := hb3.chg hC10 (fun h => nomatch h)
 have hv4 := hv4.ext hC10
 have hv6 := hv6.ext hC10
 have hC := hC.ext hC10
 have hO := hO.new1 hC10 eg10 hb10.lt
 have hv10 := os_of_box (r := (RT.os 3 (RT.int .i64))) (M := M) (css := []) (fps := []) (xs := ([] : List (List Int))) hb10 trivial (Nat.zero_le _) (List.nodup_cons.2 ⟨(fun h => nomatch h), List.nodup_nil⟩)
 have hv10 : (RT.os 25 (RT.os 3 (RT.int .i64))).val M w10 (.slice (some ⟨g10, 0, none⟩) 0 0) [] [g10] := hv10
 refine pl_val (.slice (some ⟨g10, 0, none⟩) 0 0) (y_assign rfl) ?_
 refine c_nil ?_
 refine c_seq ?_
 refine c_seq (c_region ?_)
 refine pl_val (.int .i64 0) (y_assign rfl) ?_
 refine c_nil ?_
 obtain ⟨o30, hl31, hs⟩ := bind_some hs
 refine wp_block ?_
 refine wp_forC (id := 0) (gens.length : Int) (I := fun k28 s26 a w27 => ∃ (σ : Nat → Value) (a32 : Option Addr) (n32 : Nat) (c32 : Nat) (f32 : List Nat), a = fr 172 (ovl σ [(1, (.int .i64 k)), (2, (.slice pa1 pn1 pc1)), (3, (.pointer (some ⟨g3, 0, none⟩))), (8, (.slice (some ⟨g4, 0, none⟩) 0 0)), (9, (.slice (some ⟨g6, 0, none⟩) 0 0)), (10, (.int .i64 r9)), (11, (.slice a32 n32 c32)), (12, (.int .i64 k28))]) ∧ Chg [] w w27 ∧ Own (Nw w []) M w27 (f32 ++ (([g6]) ++ (([g4]) ++ (([g3]) ++ [])))) ∧ (RT.rs (RT.pr (RT.int .i64) (RT.rs (RT.int .i64)))).val M w27 (.slice pa0 pn0 pc0) a_.2 ([]) ∧ (RT.rs (RT.rs (RT.int .i64))).val M w27 (.slice pa1 pn1 pc1) gens ([]) ∧ BoxV w27 g3 34 [(.int .i64 a_.1), (.slice pa0 pn0 pc0)] ∧ (RT.os 25 (RT.os 3 (RT.int .i64))).val M w27 (.slice (some ⟨g4, 0, none⟩) 0 0) ([]) ([g4]) ∧ (RT.os 25 (RT.os 3 (RT.int .i64))).val M w27 (.slice (some ⟨g6, 0, none⟩) 0 0) ([]) ([g6]) ∧ (RT.os 25 (RT.os 3 (RT.int .i64))).val M w27 (.slice a32 n32 c32) s26 f32) (J := fun s26 a w27 => ∃ (σ : Nat → Value) (a34 : Option Addr) (n34 : Nat) (c34 : Nat) (f34 : List Nat), a = fr 172 (ovl σ [(1, (.int .i64 k)), (3, (.pointer (some ⟨g3, 0, none⟩))), (8, (.slice (some ⟨g4, 0, none⟩) 0 0)), (9, (.slice (some ⟨g6, 0, none⟩) 0 0)), (10, (.int .i64 r9)), (11, (.slice a34 n34 c34))]) ∧ Chg [] w w27 ∧ Own (Nw w []) M w27 (f34 ++ (([g6]) ++ (([g4]) ++ (([g3]) ++ [])))) ∧ (RT.rs (RT.pr (RT.int .i64) (RT.rs (RT.int .i64)))).val M w27 (.slice pa0 pn0 pc0) a_.2 ([]) ∧ (RT.rs (RT.rs (RT.int .i64))).val M w27 (.slice pa1 pn1 pc1) gens ([]) ∧ BoxV w27 g3 34 [(.int .i64 a_.1), (.slice pa0 pn0 pc0)] ∧ (RT.os 25 (RT.os 3 (RT.int .i64))).val M w27 (.slice (some ⟨g4, 0, none⟩) 0 0) ([]) ([g4]) ∧ (RT.os 25 (RT.os 3 (RT.int .i64))).val M w27 (.slice (some ⟨g6, 0, none⟩) 0 0) ([]) ([g6]) ∧ (RT.os 25 (RT.os 3 (RT.int .i64))).val M w27 (.slice a34 n34 c34) s26 f34) (K := (k_spec_l8Close M w)) ?_ ?_ 0 ([]) o30 _ _ ?_ hl31 ?_
 ·rintro k28 s26 a w27 ⟨σ, a32, n32, c32, f32, rfl, hC, hO, h0, h1, hb3, hv4, hv6, hv32⟩ hlt
  refine c_seq ?_
  refine c_seq (c_region ?_)
  refine pl_val (.int .i64 k28) (y_move rfl) ?_
  refine pl_val (.slice pa1 pn1 pc1) (y_move rfl) ?_
  refine pl_val (.int .i64 (gens.length : Int)) (y_len' Sl49 (rs_len h1) rfl) ?_
  refine pl_val (.bool (decide (k28 < (gens.length : Int)))) (y_lss rfl rfl) ?_
  refine c_nil ?_
  refine c_condF (congrArg Value.bool (decide_eq_false hlt)) ?_
  refine wp_exit ?_
  have hO := hO.fr3
  have hO := hO.fr3
  have hO := hO.fr3
  have hO := hO.fr3
  exact ⟨rfl, _, a32, n32, c32, f32, fr_ovl 172 ⟨rfl, rfl, rfl, rfl, rfl, rfl, trivial⟩, hC, hO, h0, h1, hb3, hv4, hv6, hv32⟩
 ·rintro k28 s26 o30 a w27 ⟨σ, a32, n32, c32, f32, rfl, hC, hO, h0, h1, hb3, hv4, hv6, hv32⟩ hlt hw hs
  refine c_seq ?_
  refine c_seq (c_region ?_)
  refine pl_val (.int .i64 k28) (y_move rfl) ?_
  refine pl_val (.slice pa1 pn1 pc1) (y_move rfl) ?_
  refine pl_val (.int .i64 (gens.length : Int)) (y_len' Sl49 (rs_len h1) rfl) ?_
  refine pl_val (.bool (decide (k28 < (gens.length : Int)))) (y_lss rfl rfl) ?_
  refine c_nil ?_
  refine c_condT (congrArg Value.bool (decide_eq_true hlt)) ?_
  refine wp_skip ?_
  refine c_seq ?_
  refine wp_block ?_
  refine c_region ?_
  refine pl_val (.slice a32 n32 c32) (y_move rfl) ?_
  refine pl_val (.slice pa1 pn1 pc1) (y_move rfl) ?_
  refine pl_val (.int .i64 k28) (y_move rfl) ?_
  obtain ⟨x36, hx36, hs⟩ := bind_some hs
  obtain ⟨b37, o37, hp37, ha37⟩ := rs_idx Sl49 Sz25 h1 hx36
  refine pl_val (.pointer (some ⟨b37, o37, none⟩)) (hp37 _ _ _ _ _ _ _ _ _ rfl rfl) ?_
  obtain ⟨v38, hl38, hv38⟩ := at_load Ag25 Sz25 (fun _ => rfl) ha37
  obtain ⟨a38, n38, c38, rfl⟩ := rs_sl hv38
  refine pl_val (.slice a38 n38 c38) (y_load rfl (hl38 _ (Chg.refl _ _))) ?_
  obtain ⟨r41, hr41, hs⟩ := bind_some hs
  refine pl_call Bd82 rfl (c_spec_l1Own (M := M) x36 hv38 hO.fut hr41) ?_
  rintro _ w40 ⟨a40x0, n40x0, c40x0, f40x0, rfl, hC40, hv40x0, hOc40⟩
  have h0 := h0.ext hC40
  have h1 := h1.ext hC40
  have hb3 := hb3.chg hC40 (fun h => nomatch h)
  have hv4 := hv4.ext hC40
  have hv6 := hv6.ext hC40
  have hv32 := hv32.ext hC40
  have hv38 := hv38.ext hC40
  have hC := hC.ext hC40
  have hO := Own.join0 hO hC40 hOc40
  have hO := hO.perm (R := f40x0 ++ (f32 ++ (([g6]) ++ (([g4]) ++ (([g3]) ++ ([])))))) (by simp)
  obtain ⟨w43, g43, ew43, eg43, hC43, hb43⟩ := new_block w40 [(.slice a40x0 n40x0 c40x0)] 25
  refine pl_val (w' := w43) (.slice (some ⟨g43, 0, none⟩) 1 1) (y_bslice rfl (by rw [ew43, eg43]; kernel_rfl)) ?_
  have h0 := h0.ext hC43
  have h1 := h1.ext hC43
  have hb3 := hb3.chg hC43 (fun h => nomatch h)
  have hv4 := hv4.ext hC43
  have hv6 := hv6.ext hC43
  have hv32 := hv32.ext hC43
  have hv38 := hv38.ext hC43
  have hv40x0 := hv40x0.ext hC43
  have hC := hC.ext hC43
  have hO := hO.new1 hC43 eg43 hb43.lt
  have hO := hO.perm (R := (g43 :: ((f40x0) ++ ([]))) ++ (f32 ++ (([g6]) ++ (([g4]) ++ (([g3]) ++ ([])))))) (by simp)
  have hnd43 := hO.nd
  have hv43 := os_of_box (r := (RT.os 3 (RT.int .i64))) (M := M) (css := [[(.slice a40x0 n40x0 c40x0)]]) (fps := [(f40x0 : List Nat)]) (xs := ([r41] : List (List Int))) hb43 ⟨(os_unval hv40x0), trivial⟩ (Nat.le_of_ble_eq_true rfl) hnd43
  have hv43 : (RT.os 25 (RT.os 3 (RT.int .i64))).val M w43 (.slice (some ⟨g43, 0, none⟩) 1 1) [r41] (g43 :: ((f40x0) ++ ([]))) := hv43
  obtain ⟨y46, hy46, hs⟩ := bind_some hs
  have hO := hO.fr1
  obtain ⟨a45, n45, c45, w45, f45, hr45, hC45, hf45, hv45⟩ := app_os Rw49 hy46 hv32 hv43 hO.inM (fun g hg hq => hO.apart g hq (mem_l hg))
  have hG45 := os_block hv32
  refine pl_val (w' := w45) (.slice a45 n45 c45) (y_append rfl rfl (hr45 _)) ?_
  have hO := hO.fr1
  have hO := hO.fr1
  have h0 := h0.mut hC45 (fun g hg => hO.inM g (hG45 g hg)) (fun _ _ h => nomatch h)
  have h1 := h1.mut hC45 (fun g hg => hO.inM g (hG45 g hg)) (fun _ _ h => nomatch h)
  have hb3 := hb3.chg hC45 (fun hg => hO.apart _ (hG45 _ hg) (mem_r (mem_r (mem_r (mem_l (List.mem_singleton.2 rfl))))))
  have hv4 := hv4.mut hC45 (fun g hg => hO.inM g (hG45 g hg)) (fun g hg e => hO.apart g (hG45 g hg) (mem_r (mem_r (mem_l (e)))))
  have hv6 := hv6.mut hC45 (fun g hg => hO.inM g (hG45 g hg)) (fun g hg e => hO.apart g (hG45 g hg) (mem_r (mem_l (e))))
  have hv38 := hv38.mut hC45 (fun g hg => hO.inM g (hG45 g hg)) (fun _ _ h => nomatch h)
  have hC := hC.step hC45 (fun g hg => hO.inN g (hG45 g hg))
  have hO := hO.eat hC45 hf45 (os_nodup hv45) hv45.fpl
  refine pl_val (.slice a45 n45 c45) (y_assign rfl) ?_
  refine c_nil ?_
  refine c_region ?_
  refine pl_val (.int .i64 k28) (y_move rfl) ?_
  refine pl_val (.int .i64 (w64 (k28 + 1))) (y_add rfl rfl) ?_
  refine pl_val (.int .i64 (w64 (k28 + 1))) (y_assign rfl) ?_
  refine c_nil ?_
  cases hs
  have hO := hO.fr3
  have hO := hO.fr3
  have hO := hO.fr3
  have hO := hO.fr3
  exact ⟨_, a45, n45, c45, f45, fr_ovl 172 ⟨rfl, rfl, rfl, rfl, rfl, rfl, rfl, congrArg (Value.int .i64) hw, trivial⟩, hC, hO, h0, h1, hb3, hv4, hv6, hv45⟩
 ·skip
  have hO := hO.fr3
  have hO := hO.fr3
  have hO := hO.fr3
  have hO := hO.fr3
  exact ⟨_, (some ⟨g10, 0, none⟩), 0, 0, ([g10]), fr_ovl 172 ⟨rfl, rfl, rfl, rfl, rfl, rfl, rfl, rfl, trivial⟩, hC, hO, h0, h1, hb3, hv4, hv6, hv10⟩
 ·cases o30 with
  | nx _ => exact True.intro
  | rt r_ =>
   have hs := after_rt hs
   intro a1 w1 hK
   cases hs
   exact hK
  | br s26 =>
   have hs := after_br hs
   rintro a1 w27 ⟨σ, a34, n34, c34, f34, rfl, hC, hO, h0, h1, hb3, hv4, hv6, hv34⟩
   refine c_seq ?_
   refine c_seq (c_region ?_)
   refine pl_val (.int .i64 0) (y_assign rfl) ?_
   refine c_nil ?_
   obtain ⟨o68, hl69, hs⟩ := bind_some hs
   refine wp_block ?_
   refine wp_forC (id := 2) (a_.2.length : Int) (I := fun k66 s64 a w65 => ∃ (σ : Nat → Value) (a70 : Option Addr) (n70 : Nat) (c70 : Nat) (f70 : List Nat), a = fr 172 (ovl σ [(1, (.int .i64 k)), (3, (.pointer (some ⟨g3, 0, none⟩))), (8, (.slice (some ⟨g4, 0, none⟩) 0 0)), (9, (.slice (some ⟨g6, 0, none⟩) 0 0)), (10, (.int .i64 r9)), (11, (.slice a70 n70 c70)), (13, (.int .i64 k66))]) ∧ Chg [] w w65 ∧ Own (Nw w []) M w65 (f70 ++ (([g6]) ++ (([g4]) ++ (([g3]) ++ [])))) ∧ (RT.rs (RT.pr (RT.int .i64) (RT.rs (RT.int .i64)))).val M w65 (.slice pa0 pn0 pc0) a_.2 ([]) ∧ BoxV w65 g3 34 [(.int .i64 a_.1), (.slice pa0 pn0 pc0)] ∧ (RT.os 25 (RT.os 3 (RT.int .i64))).val M w65 (.slice (some ⟨g4, 0, none⟩) 0 0) ([]) ([g4]) ∧ (RT.os 25 (RT.os 3 (RT.int .i64))).val M w65 (.slice (some ⟨g6, 0, none⟩) 0 0) ([]) ([g6]) ∧ (RT.os 25 (RT.os 3 (RT.int .i64))).val M w65 (.slice a70 n70 c70) s64 f70) (J := fun s64 a w65 => ∃ (σ : Nat → Value) (a72 : Option Addr) (n72 : Nat) (c72 : Nat) (f72 : List Nat), a = fr 172 (ovl σ [(1, (.int .i64 k)), (3, (.pointer (some ⟨g3, 0, none⟩))), (8, (.slice (some ⟨g4, 0, none⟩) 0 0)), (9, (.slice (some ⟨g6, 0, none⟩) 0 0)), (10, (.int .i64 r9)), (11, (.slice a72 n72 c72))]) ∧ Chg [] w w65 ∧ Own (Nw w []) M w65 (f72 ++ (([g6]) ++ (([g4]) ++ (([g3]) ++ [])))) ∧ (RT.rs (RT.pr (RT.int .i64) (RT.rs (RT.int .i64)))).val M w65 (.slice pa0 pn0 pc0) a_.2 ([]) ∧ BoxV w65 g3 34 [(.int .i64 a_.1), (.slice pa0 pn0 pc0)] ∧ (RT.os 25 (RT.os 3 (RT.int .i64))).val M w65 (.slice (some ⟨g4, 0, none⟩) 0 0) ([]) ([g4]) ∧ (RT.os 25 (RT.os 3 (RT.int .i64))).val M w65 (.slice (some ⟨g6, 0, none⟩) 0 0) ([]) ([g6]) ∧ (RT.os 25 (RT.os 3 (RT.int .i64))).val M w65 (.slice a72 n72 c72) s64 f72) (K := (k_spec_l8Close M w)) ?_ ?_ 0 s26 o68 _ _ ?_ hl69 ?_
   ·rintro k66 s64 a w65 ⟨σ, a70, n70, c70, f70, rfl, hC, hO, h0, hb3, hv4, hv6, hv70⟩ hlt
    refine c_seq ?_
    refine c_seq (c_region ?_)
    refine pl_val (.int .i64 k66) (y_move rfl) ?_
    refine pl_val (.pointer (some ⟨g3, 1, none⟩)) (y_faddr rfl Fa34x1) ?_
    refine pl_val (.slice pa0 pn0 pc0) (y_load rfl ((box_load Ag32 Sz32 hb3 [(.int .i64 a_.1)] [(.slice pa0 pn0 pc0)] [] rfl rfl (fun _ => rfl)) _ (Chg.refl _ _))) ?_
    refine pl_val (.int .i64 (a_.2.length : Int)) (y_len' Sl32 (rs_len h0) rfl) ?_
    refine pl_val (.bool (decide (k66 < (a_.2.length : Int)))) (y_lss rfl rfl) ?_
    refine c_nil ?_
    refine c_condF (congrArg Value.bool (decide_eq_false hlt)) ?_
    refine wp_exit ?_
    have hO := hO.fr3
    have hO := hO.fr3
    have hO := hO.fr3
    have hO := hO.fr3
    exact ⟨rfl, _, a70, n70, c70, f70, fr_ovl 172 ⟨rfl, rfl, rfl, rfl, rfl, rfl, trivial⟩, hC, hO, h0, hb3, hv4, hv6, hv70⟩
   ·rintro k66 s64 o68 a w65 ⟨σ, a70, n70, c70, f70, rfl, hC, hO, h0, hb3, hv4, hv6, hv70⟩ hlt hw hs
    refine c_seq ?_
    refine c_seq (c_region ?_)
    refine pl_val (.int .i64 k66) (y_move rfl) ?_
    refine pl_val (.pointer (some ⟨g3, 1, none⟩)) (y_faddr rfl Fa34x1) ?_
    refine pl_val (.slice pa0 pn0 pc0) (y_load rfl ((box_load Ag32 Sz32 hb3 [(.int .i64 a_.1)] [(.slice pa0 pn0 pc0)] [] rfl rfl (fun _ => rfl)) _ (Chg.refl _ _))) ?_
    refine pl_val (.int .i64 (a_.2.length : Int)) (y_len' Sl32 (rs_len h0) rfl) ?_
    refine pl_val (.bool (decide (k66 < (a_.2.length : Int)))) (y_lss rfl rfl) ?_
    refine c_nil ?_
    refine c_condT (congrArg Value.bool (decide_eq_true hlt)) ?_
    refine wp_skip ?_
    refine c_seq ?_
    refine wp_block ?_
    refine c_seq (c_region ?_)
    refine pl_val (.pointer (some ⟨g3, 1, none⟩)) (y_faddr rfl Fa34x1) ?_
    refine pl_val (.slice pa0 pn0 pc0) (y_load rfl ((box_load Ag32 Sz32 hb3 [(.int .i64 a_.1)] [(.slice pa0 pn0 pc0)] [] rfl rfl (fun _ => rfl)) _ (Chg.refl _ _))) ?_
    refine pl_val (.int .i64 k66) (y_move rfl) ?_
    obtain ⟨x74, hx74, hs⟩ := bind_some hs
    obtain ⟨b75, o75, hp75, ha75⟩ := rs_idx Sl32 Sz36 h0 hx74
    refine pl_val (.pointer (some ⟨b75, o75, none⟩)) (hp75 _ _ _ _ _ _ _ _ _ rfl rfl) ?_
    obtain ⟨hq76, _⟩ := pr_at ha75
    refine pl_val (.pointer (some ⟨b75, o75 + 0, none⟩)) (y_faddr rfl Fa36x0) ?_
    refine pl_val (.int .i64 x74.1) (y_load rfl ((at_load_int Ag3 Sz3 hq76) _ (Chg.refl _ _))) ?_
    refine pl_val (.bool (x74.1 == 0)) (y_eql rfl rfl) ?_
    refine c_nil ?_
    rcases bif_some hs with ⟨hc77, hs⟩ | ⟨hc77, hs⟩
    ·skip
     refine c_condT (congrArg Value.bool hc77) ?_
     refine c_region ?_
     refine pl_val (.slice a70 n70 c70) (y_move rfl) ?_
     refine pl_val (.agg #[(.int .i64 a_.1), (.slice pa0 pn0 pc0)]) (y_load rfl ((box_load Ag34 Sz34 hb3 [] [(.int .i64 a_.1), (.slice pa0 pn0 pc0)] [] rfl rfl (fun h => nomatch h)) _ (Chg.refl _ _))) ?_
     refine pl_val (.int .i64 k66) (y_move rfl) ?_
     obtain ⟨w78, g78, ew78, eg78, hC78, hb78⟩ := new_block w65 [] 25
     refine pl_val (w' := w78) (.slice (some ⟨g78, 0, none⟩) 0 0) (y_bslice rfl (by rw [ew78, eg78]; kernel_rfl)) ?_
     have h0 := h0.ext hC78
     have hb3 := hb3.chg hC78 (fun h => nomatch h)
     have hv4 := hv4.ext hC78
     have hv6 := hv6.ext hC78
     have hv70 := hv70.ext hC78
     have hC := hC.ext hC78
     have hO := hO.new1 hC78 eg78 hb78.lt
     have hv78 := os_of_box (r := (RT.os 3 (RT.int .i64))) (M := M) (css := []) (fps := []) (xs := ([] : List (List Int))) hb78 trivial (Nat.zero_le _) (List.nodup_cons.2 ⟨(fun h => nomatch h), List.nodup_nil⟩)
     have hv78 : (RT.os 25 (RT.os 3 (RT.int .i64))).val M w78 (.slice (some ⟨g78, 0, none⟩) 0 0) [] [g78] := hv78
     refine pl_val (.int .i64 k) (y_move rfl) ?_
     obtain ⟨r81, hr81, hs⟩ := bind_some hs
     refine pl_call Bd83 rfl (c_spec_l8Apply (M := (Less M ([g78]))) (a_.1, a_.2) k66 ([]) k (h0.sub Less.sub) (((Frz.os (Frz.os Frz.int))).val hv78 Less.sub Less.not) hO.less.fut hr81) ?_
     rintro _ w80 ⟨a80x0, n80x0, c80x0, f80x0, rfl, hC80, hv80x0, hOc80⟩
     have h0 := h0.ext hC80
     have hb3 := hb3.chg hC80 (fun h => nomatch h)
     have hv4 := hv4.ext hC80
     have hv6 := hv6.ext hC80
     have hv70 := hv70.ext hC80
     have hv78 := hv78.ext hC80
     have hC := hC.ext hC80
     have hO := Own.join0 hO hC80 hOc80
     have hO := hO.perm (R := f80x0 ++ (([g78]) ++ (f70 ++ (([g6]) ++ (([g4]) ++ (([g3]) ++ ([]))))))) (by simp)
     have hv80x0 := hv80x0.free (M' := M) (Free.os Free.int)
     obtain ⟨w83, g83, ew83, eg83, hC83, hb83⟩ := new_block w80 [(.slice a80x0 n80x0 c80x0)] 25
     refine pl_val (w' := w83) (.slice (some ⟨g83, 0, none⟩) 1 1) (y_bslice rfl (by rw [ew83, eg83]; kernel_rfl)) ?_
     have h0 := h0.ext hC83
     have hb3 := hb3.chg hC83 (fun h => nomatch h)
     have hv4 := hv4.ext hC83
     have hv6 := hv6.ext hC83
     have hv70 := hv70.ext hC83
     have hv78 := hv78.ext hC83
     have hv80x0 := hv80x0.ext hC83
     have hC := hC.ext hC83
     have hO := hO.new1 hC83 eg83 hb83.lt
     have hO := hO.perm (R := (g83 :: ((f80x0) ++ ([]))) ++ (([g78]) ++ (f70 ++ (([g6]) ++ (([g4]) ++ (([g3]) ++ ([]))))))) (by simp)
     have hnd83 := hO.nd
     have hv83 := os_of_box (r := (RT.os 3 (RT.int .i64))) (M := M) (css := [[(.slice a80x0 n80x0 c80x0)]]) (fps := [(f80x0 : List Nat)]) (xs := ([r81] : List (List Int))) hb83 ⟨(os_unval hv80x0), trivial⟩ (Nat.le_of_ble_eq_true rfl) hnd83
     have hv83 : (RT.os 25 (RT.os 3 (RT.int .i64))).val M w83 (.slice (some ⟨g83, 0, none⟩) 1 1) [r81] (g83 :: ((f80x0) ++ ([]))) := hv83
     obtain ⟨y86, hy86, hs⟩ := bind_some hs
     have hO := hO.fr2
     obtain ⟨a85, n85, c85, w85, f85, hr85, hC85, hf85, hv85⟩ := app_os Rw49 hy86 hv70 hv83 hO.inM (fun g hg hq => hO.apart g hq (mem_l hg))
     have hG85 := os_block hv70
     refine pl_val (w' := w85) (.slice a85 n85 c85) (y_append rfl rfl (hr85 _)) ?_
     have hO := hO.fr1
     have hO := hO.fr1
     have h0 := h0.mut hC85 (fun g hg => hO.inM g (hG85 g hg)) (fun _ _ h => nomatch h)
     have hb3 := hb3.chg hC85 (fun hg => hO.apart _ (hG85 _ hg) (mem_r (mem_r (mem_r (mem_r (mem_l (List.mem_singleton.2 rfl)))))))
     have hv4 := hv4.mut hC85 (fun g hg => hO.inM g (hG85 g hg)) (fun g hg e => hO.apart g (hG85 g hg) (mem_r (mem_r (mem_r (mem_l (e))))))
     have hv6 := hv6.mut hC85 (fun g hg => hO.inM g (hG85 g hg)) (fun g hg e => hO.apart g (hG85 g hg) (mem_r (mem_r (mem_l (e)))))
     have hv78 := hv78.mut hC85 (fun g hg => hO.inM g (hG85 g hg)) (fun g hg e => hO.apart g (hG85 g hg) (mem_r (mem_l (e))))
     have hC := hC.step hC85 (fun g hg => hO.inN g (hG85 g hg))
     have hO := hO.eat hC85 hf85 (os_nodup hv85) hv85.fpl
     refine pl_val (.slice a85 n85 c85) (y_assign rfl) ?_
     refine c_nil ?_
     refine c_region ?_
     refine pl_val (.int .i64 k66) (y_move rfl) ?_
     refine pl_val (.int .i64 (w64 (k66 + 1))) (y_add rfl rfl) ?_
     refine pl_val (.int .i64 (w64 (k66 + 1))) (y_assign rfl) ?_
     refine c_nil ?_
     cases hs
     have hO := hO.fr1
     have hO := hO.drop
     have hO := hO.fr3
     have hO := hO.fr3
     have hO := hO.fr3
     have hO := hO.fr3
     exact ⟨_, a85, n85, c85, f85, fr_ovl 172 ⟨rfl, rfl, rfl, rfl, rfl, rfl, congrArg (Value.int .i64) hw, trivial⟩, hC, hO, h0, hb3, hv4, hv6, hv85⟩
    ·skip
     refine c_condF (congrArg Value.bool hc77) ?_
     refine wp_skip ?_
     refine c_region ?_
     refine pl_val (.int .i64 k66) (y_move rfl) ?_
     refine pl_val (.int .i64 (w64 (k66 + 1))) (y_add rfl rfl) ?_
     refine pl_val (.int .i64 (w64 (k66 + 1))) (y_assign rfl) ?_
     refine c_nil ?_
     cases hs
     have hO := hO.fr3
     have hO := hO.fr3
     have hO := hO.fr3
     have hO := hO.fr3
     exact ⟨_, a70, n70, c70, f70, fr_ovl 172 ⟨rfl, rfl, rfl, rfl, rfl, rfl, congrArg (Value.int .i64) hw, trivial⟩, hC, hO, h0, hb3, hv4, hv6, hv70⟩
   ·skip
    have hO := hO.fr3
    have hO := hO.fr3
    have hO := hO.fr3
    have hO := hO.fr3
    exact ⟨_, a34, n34, c34, f34, fr_ovl 172 ⟨rfl, rfl, rfl, rfl, rfl, rfl, rfl, trivial⟩, hC, hO, h0, hb3, hv4, hv6, hv34⟩
   ·cases o68 with
    | nx _ => exact True.intro
    | rt r_ =>
     have hs := after_rt hs
     intro a1 w1 hK
     cases hs
     exact hK
    | br s64 =>
     have hs := after_br hs
     rintro a1 w65 ⟨σ, a72, n72, c72, f72, rfl, hC, hO, h0, hb3, hv4, hv6, hv72⟩
     refine c_seq ?_
     refine c_seq (c_region ?_)
     refine pl_val (.int .i64 0) (y_assign rfl) ?_
     refine c_nil ?_
     have hO := hO.fr2
     obtain ⟨M177, eM177, hs177, hk177, hO, hv177⟩ := frz_own (Frz.os (Frz.os Frz.int)) hv4 hO
     have h0 := h0.sub (M' := M177) hs177
     have hv6 := hv6.sub (M' := M177) hs177
     have hv72 := hv72.sub (M' := M177) hs177
     have hK := hk177
     have hO := hO.fr1
     obtain ⟨M178, f178, hs178, hk178, hO, hv178⟩ := os_inner (Frz.os Frz.int) hv6 hO
     have h0 := h0.sub (M' := M178) hs178
     have hv177 := hv177.sub (M' := M178) hs178
     have hv72 := hv72.sub (M' := M178) hs178
     have hK := hK.trans hk178
     have hO := hO.fr1
     obtain ⟨M179, eM179, hs179, hk179, hO, hv179⟩ := frz_own (Frz.os (Frz.os Frz.int)) hv72 hO
     have h0 := h0.sub (M' := M179) hs179
     have hv177 := hv177.sub (M' := M179) hs179
     have hv178 := hv178.sub (M' := M179) hs179
     have hK := hK.trans hk179
     obtain ⟨o253, hl254, hs⟩ := bind_some hs
     refine wp_block ?_
     refine wp_iter (id := 4) (I := fun s249 a w250 => ∃ (σ : Nat → Value) (M255 : Nat → Prop) (a256 : Option Addr) (n256 : Nat) (c256 : Nat) (a258 : Option Addr) (n258 : Nat) (c258 : Nat) (f258 : List Nat), a = fr 172 (ovl σ [(1, (.int .i64 k)), (3, (.pointer (some ⟨g3, 0, none⟩))), (8, (.slice a256 n256 c256)), (9, (.slice a258 n258 c258)), (10, (.int .i64 r9)), (11, (.slice a72 n72 c72)), (14, (.int .i64 s249.2.2))]) ∧ Chg [] w w250 ∧ Own (Nw w []) M255 w250 (f258 ++ (([g3]) ++ [])) ∧ Keeps w M M255 ∧ (RT.rs (RT.pr (RT.int .i64) (RT.rs (RT.int .i64)))).val M255 w250 (.slice pa0 pn0 pc0) a_.2 ([]) ∧ BoxV w250 g3 34 [(.int .i64 a_.1), (.slice pa0 pn0 pc0)] ∧ (RT.rs (RT.rs (RT.int .i64))).val M255 w250 (.slice a72 n72 c72) s64 ([]) ∧ (RT.rs (RT.rs (RT.int .i64))).val M255 w250 (.slice a256 n256 c256) s249.1 ([]) ∧ (RT.os 25 (RT.rs (RT.int .i64))).val M255 w250 (.slice a258 n258 c258) s249.2.1 f258) (J := fun s249 a w250 => ∃ (σ : Nat → Value) (M260 : Nat → Prop) (a261 : Option Addr) (n261 : Nat) (c261 : Nat) (a263 : Option Addr) (n263 : Nat) (c263 : Nat) (f263 : List Nat), a = fr 172 (ovl σ [(1, (.int .i64 k)), (3, (.pointer (some ⟨g3, 0, none⟩))), (8, (.slice a261 n261 c261)), (9, (.slice a263 n263 c263)), (10, (.int .i64 r9))]) ∧ Chg [] w w250 ∧ Own (Nw w []) M260 w250 (f263 ++ (([g3]) ++ [])) ∧ Keeps w M M260 ∧ (RT.rs (RT.pr (RT.int .i64) (RT.rs (RT.int .i64)))).val M260 w250 (.slice pa0 pn0 pc0) a_.2 ([]) ∧ BoxV w250 g3 34 [(.int .i64 a_.1), (.slice pa0 pn0 pc0)] ∧ (RT.rs (RT.rs (RT.int .i64))).val M260 w250 (.slice a72 n72 c72) s64 ([]) ∧ (RT.rs (RT.rs (RT.int .i64))).val M260 w250 (.slice a261 n261 c261) s249.1 ([]) ∧ (RT.os 25 (RT.rs (RT.int .i64))).val M260 w250 (.slice a263 n263 c263) s249.2.1 f263) (K := (k_spec_l8Close M w)) ?_ FU ([], [], 0) o253 _ _ ?_ hl254 ?_
     ·rintro s249 o253 a w250 ⟨σ, M255, a256, n256, c256, a258, n258, c258, f258, rfl, hC, hO, hK, h0, hb3, hv179, hv256, hv258⟩ hs
      refine c_seq ?_
      refine c_seq (c_region ?_)
      refine pl_val (.int .i64 s249.2.2) (y_move rfl) ?_
      refine pl_val (.slice a72 n72 c72) (y_move rfl) ?_
      refine pl_val (.int .i64 (s64.length : Int)) (y_len' Sl49 (rs_len hv179) rfl) ?_
      refine pl_val (.bool (decide (s249.2.2 < (s64.length : Int)))) (y_lss rfl rfl) ?_
      refine c_nil ?_
      rcases bif_some hs with ⟨hc265, hs⟩ | ⟨hc265, hs⟩
      ·skip
       refine c_condT (congrArg Value.bool hc265) ?_
       refine wp_skip ?_
       refine c_seq ?_
       refine wp_block ?_
       refine c_seq (c_region ?_)
       refine pl_val (.slice a256 n256 c256) (y_move rfl) ?_
       refine pl_val (.slice a72 n72 c72) (y_move rfl) ?_
       refine pl_val (.int .i64 s249.2.2) (y_move rfl) ?_
       obtain ⟨x266, hx266, hs⟩ := bind_some hs
       obtain ⟨b267, o267, hp267, ha267⟩ := rs_idx Sl49 Sz25 hv179 hx266
       refine pl_val (.pointer (some ⟨b267, o267, none⟩)) (hp267 _ _ _ _ _ _ _ _ _ rfl rfl) ?_
       obtain ⟨v268, hl268, hv268⟩ := at_load Ag25 Sz25 (fun _ => rfl) ha267
       obtain ⟨a268, n268, c268, rfl⟩ := rs_sl hv268
       refine pl_val (.slice a268 n268 c268) (y_load rfl (hl268 _ (Chg.refl _ _))) ?_
       obtain ⟨r271, hr271, hs⟩ := bind_some hs
       refine pl_call Bd71 rfl (c_spec_l8Find (M := M255) s249.1 x266 hv256 hv268 hO.fut hr271) ?_
       rintro _ w270 ⟨rfl, hC270⟩
       have h0 := h0.ext hC270
       have hb3 := hb3.chg hC270 (fun h => nomatch h)
       have hv179 := hv179.ext hC270
       have hv256 := hv256.ext hC270
       have hv258 := hv258.ext hC270
       have hv268 := hv268.ext hC270
       have hC := hC.ext hC270
       have hO := hO.ext hC270
       refine pl_val (.tuple #[(.int .i64 r271.1), (.bool r271.2)]) (y_move rfl) ?_
       refine pl_val (.int .i64 r271.1) (y_extract rfl (by kernel_rfl)) ?_
       refine pl_val (.bool r271.2) (y_extract rfl (by kernel_rfl)) ?_
       refine pl_val (.int .i64 r271.1) (y_assign rfl) ?_
       refine pl_val (.bool r271.2) (y_assign rfl) ?_
       refine c_nil ?_
       refine c_seq (c_region ?_)
       refine pl_val (.bool r271.2) (y_move rfl) ?_
       refine pl_val (.bool (!r271.2)) (y_not rfl) ?_
       refine c_nil ?_
       rcases bif_some hs with ⟨hc272, hs⟩ | ⟨hc272, hs⟩
       ·skip
        refine c_condT (congrArg Value.bool hc272) ?_
        refine c_seq (c_region ?_)
        refine pl_val (.slice a256 n256 c256) (y_move rfl) ?_
        refine pl_val (.slice a72 n72 c72) (y_move rfl) ?_
        refine pl_val (.int .i64 s249.2.2) (y_move rfl) ?_
        obtain ⟨x273, hx273, hs⟩ := bind_some hs
        obtain ⟨b274, o274, hp274, ha274⟩ := rs_idx Sl49 Sz25 hv179 hx273
        refine pl_val (.pointer (some ⟨b274, o274, none⟩)) (hp274 _ _ _ _ _ _ _ _ _ rfl rfl) ?_
        obtain ⟨v275, hl275, hv275⟩ := at_load Ag25 Sz25 (fun _ => rfl) ha274
        obtain ⟨a275, n275, c275, rfl⟩ := rs_sl hv275
        refine pl_val (.slice a275 n275 c275) (y_load rfl (hl275 _ (Chg.refl _ _))) ?_
        obtain ⟨r278, hr278, hs⟩ := bind_some hs
        refine pl_call Bd84 rfl (c_spec_l8Put (M := M255) s249.1 x273 hv256 hv275 hO.fut hr278) ?_
        rintro _ w277 ⟨a277x0, n277x0, c277x0, rfl, hC277, hv277x0⟩
        have hK := hK.trans (show Keeps w M255 (Past M255 w270 w277) from Keeps.past hC.size)
        have h0 := h0.ext hC277
        have hb3 := hb3.chg hC277 (fun h => nomatch h)
        have hv179 := hv179.ext hC277
        have hv256 := hv256.ext hC277
        have hv258 := hv258.ext hC277
        have hv275 := hv275.ext hC277
        have hC := hC.ext hC277
        have hO := hO.past hC277
        have h0 := h0.sub (M' := (Past M255 w270 w277)) (fun g hg => .inl hg.1)
        have hv179 := hv179.sub (M' := (Past M255 w270 w277)) (fun g hg => .inl hg.1)
        have hv256 := hv256.sub (M' := (Past M255 w270 w277)) (fun g hg => .inl hg.1)
        have hv258 := hv258.sub (M' := (Past M255 w270 w277)) (fun g hg => .inl hg.1)
        have hv275 := hv275.sub (M' := (Past M255 w270 w277)) (fun g hg => .inl hg.1)
        refine pl_val (.slice a277x0 n277x0 c277x0) (y_assign rfl) ?_
        refine c_nil ?_
        refine c_region ?_
        refine pl_val (.slice a258 n258 c258) (y_move rfl) ?_
        refine pl_val (.slice a72 n72 c72) (y_move rfl) ?_
        refine pl_val (.int .i64 s249.2.2) (y_move rfl) ?_
        obtain ⟨x280, hx280, hs⟩ := bind_some hs
        obtain ⟨b281, o281, hp281, ha281⟩ := rs_idx Sl49 Sz25 hv179 hx280
        refine pl_val (.pointer (some ⟨b281, o281, none⟩)) (hp281 _ _ _ _ _ _ _ _ _ rfl rfl) ?_
        obtain ⟨v282, hl282, hv282⟩ := at_load Ag25 Sz25 (fun _ => rfl) ha281
        obtain ⟨a282, n282, c282, rfl⟩ := rs_sl hv282
        refine pl_val (.slice a282 n282 c282) (y_load rfl (hl282 _ (Chg.refl _ _))) ?_
        obtain ⟨w284, g284, ew284, eg284, hC284, hb284⟩ := new_block w277 [(.slice a282 n282 c282)] 25
        refine pl_val (w' := w284) (.slice (some ⟨g284, 0, none⟩) 1 1) (y_bslice rfl (by rw [ew284, eg284]; kernel_rfl)) ?_
        have h0 := h0.ext hC284
        have hb3 := hb3.chg hC284 (fun h => nomatch h)
        have hv179 := hv179.ext hC284
        have hv258 := hv258.ext hC284
        have hv277x0 := hv277x0.ext hC284
        have hv282 := hv282.ext hC284
        have hC := hC.ext hC284
        have hO := hO.new1 hC284 eg284 hb284.lt
        have hv284 := os_of_box (r := (RT.rs (RT.int .i64))) (M := (Past M255 w270 w277)) (css := [[(.slice a282 n282 c282)]]) (fps := [([] : List Nat)]) (xs := ([x280] : List (List Int))) hb284 ⟨(rs_unval hv282), trivial⟩ (Nat.le_of_ble_eq_true rfl) (List.nodup_cons.2 ⟨(fun h => nomatch h), List.nodup_nil⟩)
        have hv284 : (RT.os 25 (RT.rs (RT.int .i64))).val (Past M255 w270 w277) w284 (.slice (some ⟨g284, 0, none⟩) 1 1) [x280] [g284] := hv284
        obtain ⟨y287, hy287, hs⟩ := bind_some hs
        have hO := hO.fr1
        obtain ⟨a286, n286, c286, w286, f286, hr286, hC286, hf286, hv286⟩ := app_os Rw49 hy287 hv258 hv284 hO.inM (fun g hg hq => hO.apart g hq (mem_l hg))
        have hG286 := os_block hv258
        refine pl_val (w' := w286) (.slice a286 n286 c286) (y_append rfl rfl (hr286 _)) ?_
        have hO := hO.fr1
        have hO := hO.fr1
        have h0 := h0.mut hC286 (fun g hg => hO.inM g (hG286 g hg)) (fun _ _ h => nomatch h)
        have hb3 := hb3.chg hC286 (fun hg => hO.apart _ (hG286 _ hg) (mem_r (mem_l (List.mem_singleton.2 rfl))))
        have hv179 := hv179.mut hC286 (fun g hg => hO.inM g (hG286 g hg)) (fun _ _ h => nomatch h)
        have hv277x0 := hv277x0.mut hC286 (fun g hg => hO.inM g (hG286 g hg)) (fun _ _ h => nomatch h)
        have hv282 := hv282.mut hC286 (fun g hg => hO.inM g (hG286 g hg)) (fun _ _ h => nomatch h)
        have hC := hC.step hC286 (fun g hg => hO.inN g (hG286 g hg))
        have hO := hO.eat hC286 hf286 (os_nodup hv286) hv286.fpl
        refine pl_val (.slice a286 n286 c286) (y_assign rfl) ?_
        refine c_nil ?_
        refine c_region ?_
        refine pl_val (.int .i64 s249.2.2) (y_move rfl) ?_
        refine pl_val (.int .i64 (w64 (s249.2.2 + 1))) (y_add rfl rfl) ?_
        refine pl_val (.int .i64 (w64 (s249.2.2 + 1))) (y_assign rfl) ?_
        refine c_nil ?_
        cases hs
        have hO := hO.fr1
        have hO := hO.fr1
        exact ⟨_, (Past M255 w270 w277), a277x0, n277x0, c277x0, a286, n286, c286, f286, fr_ovl 172 ⟨rfl, rfl, rfl, rfl, rfl, rfl, rfl, trivial⟩, hC, hO, hK, h0, hb3, hv179, hv277x0, hv286⟩
       ·skip
        refine c_condF (congrArg Value.bool hc272) ?_
        refine wp_skip ?_
        refine c_region ?_
        refine pl_val (.int .i64 s249.2.2) (y_move rfl) ?_
        refine pl_val (.int .i64 (w64 (s249.2.2 + 1))) (y_add rfl rfl) ?_
        refine pl_val (.int .i64 (w64 (s249.2.2 + 1))) (y_assign rfl) ?_
        refine c_nil ?_
        cases hs
        have hO := hO.fr1
        have hO := hO.fr1
        exact ⟨_, M255, a256, n256, c256, a258, n258, c258, f258, fr_ovl 172 ⟨rfl, rfl, rfl, rfl, rfl, rfl, rfl, trivial⟩, hC, hO, hK, h0, hb3, hv179, hv256, hv258⟩
      ·skip
       refine c_condF (congrArg Value.bool hc265) ?_
       refine wp_exit ?_
       cases hs
       have hO := hO.fr1
       have hO := hO.fr1
       exact ⟨rfl, _, M255, a256, n256, c256, a258, n258, c258, f258, fr_ovl 172 ⟨rfl, rfl, rfl, rfl, rfl, trivial⟩, hC, hO, hK, h0, hb3, hv179, hv256, hv258⟩
     ·skip
      have hO := hO.fr1
      have hO := hO.fr1
      exact ⟨_, M179, (some ⟨g4, 0, none⟩), 0, 0, (some ⟨g6, 0, none⟩), 0, 0, f178, fr_ovl 172 ⟨rfl, rfl, rfl, rfl, rfl, rfl, rfl, trivial⟩, hC, hO, hK, h0, hb3, hv179, hv177, hv178⟩
     ·cases o253 with
      | nx _ => exact True.intro
      | rt r_ =>
       have hs := after_rt hs
       intro a1 w1 hK
       cases hs
       exact hK
      | br s249 =>
       have hs := after_br hs
       rintro a1 w250 ⟨σ, M260, a261, n261, c261, a263, n263, c263, f263, rfl, hC, hO, hK, h0, hb3, hv179, hv261, hv263⟩
       refine c_seq ?_
       refine c_seq (c_region ?_)
       refine pl_val (.int .i64 0) (y_assign rfl) ?_
       refine c_nil ?_
       obtain ⟨o2570, hl2571, hs⟩ := bind_some hs
       refine wp_block ?_
       refine wp_iter (id := 6) (I := fun s2566 a w2567 => ∃ (σ : Nat → Value) (M2572 : Nat → Prop) (a2573 : Option Addr) (n2573 : Nat) (c2573 : Nat) (a2575 : Option Addr) (n2575 : Nat) (c2575 : Nat) (f2575 : List Nat), a = fr 172 (ovl σ [(1, (.int .i64 k)), (3, (.pointer (some ⟨g3, 0, none⟩))), (8, (.slice a2573 n2573 c2573)), (9, (.slice a2575 n2575 c2575)), (10, (.int .i64 r9)), (17, (.int .i64 s2566.2.2))]) ∧ Chg [] w w2567 ∧ Own (Nw w []) M2572 w2567 (f2575 ++ (([g3]) ++ [])) ∧ Keeps w M M2572 ∧ (RT.rs (RT.pr (RT.int .i64) (RT.rs (RT.int .i64)))).val M2572 w2567 (.slice pa0 pn0 pc0) a_.2 ([]) ∧ BoxV w2567 g3 34 [(.int .i64 a_.1), (.slice pa0 pn0 pc0)] ∧ (RT.rs (RT.rs (RT.int .i64))).val M2572 w2567 (.slice a2573 n2573 c2573) s2566.1 ([]) ∧ (RT.os 25 (RT.rs (RT.int .i64))).val M2572 w2567 (.slice a2575 n2575 c2575) s2566.2.1 f2575) (J := fun s2566 a w2567 => ∃ (σ : Nat → Value) (M2577 : Nat → Prop) (a2578 : Option Addr) (n2578 : Nat) (c2578 : Nat) (a2580 : Option Addr) (n2580 : Nat) (c2580 : Nat) (f2580 : List Nat), a = fr 172 (ovl σ [(8, (.slice a2578 n2578 c2578)), (10, (.int .i64 r9))]) ∧ Chg [] w w2567 ∧ Own (Nw w []) M2577 w2567 (f2580 ++ (([g3]) ++ [])) ∧ Keeps w M M2577 ∧ (RT.rs (RT.pr (RT.int .i64) (RT.rs (RT.int .i64)))).val M2577 w2567 (.slice pa0 pn0 pc0) a_.2 ([]) ∧ BoxV w2567 g3 34 [(.int .i64 a_.1), (.slice pa0 pn0 pc0)] ∧ (RT.rs (RT.rs (RT.int .i64))).val M2577 w2567 (.slice a2578 n2578 c2578) s2566.1 ([]) ∧ (RT.os 25 (RT.rs (RT.int .i64))).val M2577 w2567 (.slice a2580 n2580 c2580) s2566.2.1 f2580) (K := (k_spec_l8Close M w)) ?_ FU (s249.1, s249.2.1, 0) o2570 _ _ ?_ hl2571 ?_
       ·rintro s2566 o2570 a w2567 ⟨σ, M2572, a2573, n2573, c2573, a2575, n2575, c2575, f2575, rfl, hC, hO, hK, h0, hb3, hv2573, hv2575⟩ hs
        refine c_seq ?_
        refine c_seq ?_
        refine c_mid (I := fun a w2583 => ∃ (σ : Nat → Value), a = fr 172 (ovl σ [(1, (.int .i64 k)), (3, (.pointer (some ⟨g3, 0, none⟩))), (8, (.slice a2573 n2573 c2573)), (9, (.slice a2575 n2575 c2575)), (10, (.int .i64 r9)), (17, (.int .i64 s2566.2.2)), (104, (.bool ((decide (s2566.2.2 < (s2566.2.1.length : Int))) && (decide ((s2566.2.1.length : Int) ≤ r9)))))]) ∧ Chg [] w2567 w2583) ?_ ?_
        ·have hMid := Chg.refl [] w2567
         refine c_region ?_
         refine pl_val (.int .i64 s2566.2.2) (y_move rfl) ?_
         refine pl_val (.slice a2575 n2575 c2575) (y_move rfl) ?_
         refine pl_val (.int .i64 (s2566.2.1.length : Int)) (y_len' Sl49 (os_len hv2575) rfl) ?_
         refine pl_val (.bool (decide (s2566.2.2 < (s2566.2.1.length : Int)))) (y_lss rfl rfl) ?_
         refine pl_val (.bool (decide (s2566.2.2 < (s2566.2.1.length : Int)))) (y_move rfl) ?_
         rcases Bool.eq_false_or_eq_true ((decide (s2566.2.2 < (s2566.2.1.length : Int)))) with hc2585 | hc2585
         ·skip
          refine pl_yes (.slice a2575 n2575 c2575) (tg := 99) (by kernel_rfl) (congrArg Value.bool hc2585) (y_move rfl) ?_
          refine pl_yes (.int .i64 (s2566.2.1.length : Int)) (tg := 99) (by kernel_rfl) (congrArg Value.bool hc2585) (y_len' Sl49 (os_len hv2575) rfl) ?_
          refine pl_yes (.int .i64 r9) (tg := 99) (by kernel_rfl) (congrArg Value.bool hc2585) (y_move rfl) ?_
          refine pl_yes (.bool (decide ((s2566.2.1.length : Int) ≤ r9))) (tg := 99) (by kernel_rfl) (congrArg Value.bool hc2585) (y_leq rfl rfl) ?_
          refine pl_val (.bool ((decide (s2566.2.2 < (s2566.2.1.length : Int))) && (decide ((s2566.2.1.length : Int) ≤ r9)))) (y_pick_t (congrArg Value.bool hc2585) (congrArg Value.bool (by rw [hc2585]; rfl))) ?_
          refine c_nil ?_
          exact ⟨_, fr_ovl 172 ⟨rfl, rfl, rfl, rfl, rfl, rfl, rfl, trivial⟩, hMid⟩
         ·skip
          refine pl_not (tg := 99) (by kernel_rfl) (congrArg Value.bool hc2585) ?_
          refine pl_not (tg := 99) (by kernel_rfl) (congrArg Value.bool hc2585) ?_
          refine pl_not (tg := 99) (by kernel_rfl) (congrArg Value.bool hc2585) ?_
          refine pl_not (tg := 99) (by kernel_rfl) (congrArg Value.bool hc2585) ?_
          refine pl_val (.bool ((decide (s2566.2.2 < (s2566.2.1.length : Int))) && (decide ((s2566.2.1.length : Int) ≤ r9)))) (y_pick_f (congrArg Value.bool hc2585) (congrArg Value.bool (by rw [hc2585]; rfl))) ?_
          refine c_nil ?_
          exact ⟨_, fr_ovl 172 ⟨rfl, rfl, rfl, rfl, rfl, rfl, rfl, trivial⟩, hMid⟩
        ·rintro a1 w2583 ⟨σ, rfl, hCs2582⟩
         have h0 := h0.ext hCs2582
         have hb3 := hb3.chg hCs2582 (fun h => nomatch h)
         have hv2573 := hv2573.ext hCs2582
         have hv2575 := hv2575.ext hCs2582
         have hC := hC.ext hCs2582
         have hO := hO.ext hCs2582
         rcases bif_some hs with ⟨hc2586, hs⟩ | ⟨hc2586, hs⟩
         ·skip
          refine c_condT (congrArg Value.bool hc2586) ?_
          refine wp_skip ?_
          refine c_seq ?_
          refine wp_block ?_
          refine c_seq (c_region ?_)
          refine pl_val (.int .i64 0) (y_assign rfl) ?_
          refine c_nil ?_
          obtain ⟨o3336, hl3337, hs⟩ := bind_some hs
          refine wp_block ?_
          refine wp_forC (id := 8) (a_.2.length : Int) (I := fun k3334 s3332 a w3333 => ∃ (σ : Nat → Value) (M3338 : Nat → Prop) (a3339 : Option Addr) (n3339 : Nat) (c3339 : Nat) (a3341 : Option Addr) (n3341 : Nat) (c3341 : Nat) (f3341 : List Nat), a = fr 172 (ovl σ [(1, (.int .i64 k)), (3, (.pointer (some ⟨g3, 0, none⟩))), (8, (.slice a3339 n3339 c3339)), (9, (.slice a3341 n3341 c3341)), (10, (.int .i64 r9)), (17, (.int .i64 s2566.2.2)), (18, (.int .i64 k3334))]) ∧ Chg [] w w3333 ∧ Own (Nw w []) M3338 w3333 (f3341 ++ (([g3]) ++ [])) ∧ Keeps w M M3338 ∧ (RT.rs (RT.pr (RT.int .i64) (RT.rs (RT.int .i64)))).val M3338 w3333 (.slice pa0 pn0 pc0) a_.2 ([]) ∧ BoxV w3333 g3 34 [(.int .i64 a_.1), (.slice pa0 pn0 pc0)] ∧ (RT.rs (RT.rs (RT.int .i64))).val M3338 w3333 (.slice a3339 n3339 c3339) s3332.1 ([]) ∧ (RT.os 25 (RT.rs (RT.int .i64))).val M3338 w3333 (.slice a3341 n3341 c3341) s3332.2 f3341) (J := fun s3332 a w3333 => ∃ (σ : Nat → Value) (M3343 : Nat → Prop) (a3344 : Option Addr) (n3344 : Nat) (c3344 : Nat) (a3346 : Option Addr) (n3346 : Nat) (c3346 : Nat) (f3346 : List Nat), a = fr 172 (ovl σ [(1, (.int .i64 k)), (3, (.pointer (some ⟨g3, 0, none⟩))), (8, (.slice a3344 n3344 c3344)), (9, (.slice a3346 n3346 c3346)), (10, (.int .i64 r9)), (17, (.int .i64 s2566.2.2))]) ∧ Chg [] w w3333 ∧ Own (Nw w []) M3343 w3333 (f3346 ++ (([g3]) ++ [])) ∧ Keeps w M M3343 ∧ (RT.rs (RT.pr (RT.int .i64) (RT.rs (RT.int .i64)))).val M3343 w3333 (.slice pa0 pn0 pc0) a_.2 ([]) ∧ BoxV w3333 g3 34 [(.int .i64 a_.1), (.slice pa0 pn0 pc0)] ∧ (RT.rs (RT.rs (RT.int .i64))).val M3343 w3333 (.slice a3344 n3344 c3344) s3332.1 ([]) ∧ (RT.os 25 (RT.rs (RT.int .i64))).val M3343 w3333 (.slice a3346 n3346 c3346) s3332.2 f3346) (K := (k_spec_l8Close M w)) ?_ ?_ 0 (s2566.1, s2566.2.1) o3336 _ _ ?_ hl3337 ?_
          ·rintro k3334 s3332 a w3333 ⟨σ, M3338, a3339, n3339, c3339, a3341, n3341, c3341, f3341, rfl, hC, hO, hK, h0, hb3, hv3339, hv3341⟩ hlt
           refine c_seq ?_
           refine c_seq (c_region ?_)
           refine pl_val (.int .i64 k3334) (y_move rfl) ?_
           refine pl_val (.pointer (some ⟨g3, 1, none⟩)) (y_faddr rfl Fa34x1) ?_
           refine pl_val (.slice pa0 pn0 pc0) (y_load rfl ((box_load Ag32 Sz32 hb3 [(.int .i64 a_.1)] [(.slice pa0 pn0 pc0)] [] rfl rfl (fun _ => rfl)) _ (Chg.refl _ _))) ?_
           refine pl_val (.int .i64 (a_.2.length : Int)) (y_len' Sl32 (rs_len h0) rfl) ?_
           refine pl_val (.bool (decide (k3334 < (a_.2.length : Int)))) (y_lss rfl rfl) ?_
           refine c_nil ?_
           refine c_condF (congrArg Value.bool (decide_eq_false hlt)) ?_
           refine wp_exit ?_
           have hO := hO.fr1
           have hO := hO.fr1
           exact ⟨rfl, _, M3338, a3339, n3339, c3339, a3341, n3341, c3341, f3341, fr_ovl 172 ⟨rfl, rfl, rfl, rfl, rfl, rfl, trivial⟩, hC, hO, hK, h0, hb3, hv3339, hv3341⟩
          ·rintro k3334 s3332 o3336 a w3333 ⟨σ, M3338, a3339, n3339, c3339, a3341, n3341, c3341, f3341, rfl, hC, hO, hK, h0, hb3, hv3339, hv3341⟩ hlt hw hs
           refine c_seq ?_
           refine c_seq (c_region ?_)
           refine pl_val (.int .i64 k3334) (y_move rfl) ?_
           refine pl_val (.pointer (some ⟨g3, 1, none⟩)) (y_faddr rfl Fa34x1) ?_
           refine pl_val (.slice pa0 pn0 pc0) (y_load rfl ((box_load Ag32 Sz32 hb3 [(.int .i64 a_.1)] [(.slice pa0 pn0 pc0)] [] rfl rfl (fun _ => rfl)) _ (Chg.refl _ _))) ?_
           refine pl_val (.int .i64 (a_.2.length : Int)) (y_len' Sl32 (rs_len h0) rfl) ?_
           refine pl_val (.bool (decide (k3334 < (a_.2.length : Int)))) (y_lss rfl rfl) ?_
           refine c_nil ?_
           refine c_condT (congrArg Value.bool (decide_eq_true hlt)) ?_
           refine wp_skip ?_
           refine c_seq ?_
           refine wp_block ?_
           refine c_seq ?_
           refine x_start [] Mx rfl ?_
           have hCw3358 := Chg.drew w3333
           generalize World.drew w3333 = w3358 at hCw3358 ⊢
           have h0 := h0.ext hCw3358
           have hb3 := hb3.chg hCw3358 (fun h => nomatch h)
           have hv3339 := hv3339.ext hCw3358
           have hv3341 := hv3341.ext hCw3358
           have hC := hC.ext hCw3358
           have hO := hO.ext hCw3358
           have hS := Chg.refl [] w3358
           refine x_p 0 (.pointer (some ⟨g3, 1, none⟩)) rfl (by kernel_rfl)  (fun _ => y_faddr rfl Fa34x1) (fun _ => hS) ?_
           refine x_l 1 (.slice pa0 pn0 pc0) rfl (by kernel_rfl)  (fun w' hw' => y_load rfl ((box_load Ag32 Sz32 hb3 [(.int .i64 a_.1)] [(.slice pa0 pn0 pc0)] [] rfl rfl (fun _ => rfl)) w' hw')) hS ?_
           refine x_p 2 (.int .i64 k3334) rfl (by kernel_rfl)  (fun _ => y_move rfl) (fun _ => hS) ?_
           obtain ⟨x3359, hx3359, hs⟩ := bind_some hs
           obtain ⟨b3360, o3360, hp3360, ha3360⟩ := rs_idx Sl32 Sz36 h0 hx3359
           refine x_p 3 (.pointer (some ⟨b3360, o3360, none⟩)) rfl (by kernel_rfl)  (fun _ => hp3360 _ _ _ _ _ _ _ _ _ rfl rfl) (fun _ => hS) ?_
           obtain ⟨hq3361, _⟩ := pr_at ha3360
           refine x_p 4 (.pointer (some ⟨b3360, o3360 + 0, none⟩)) rfl (by kernel_rfl)  (fun _ => y_faddr rfl Fa36x0) (fun _ => hS) ?_
           refine x_l 5 (.int .i64 x3359.1) rfl (by kernel_rfl)  (fun w' hw' => y_load rfl ((at_load_int Ag3 Sz3 hq3361) w' hw')) hS ?_
           refine x_p 7 (.pointer (some ⟨g3, 1, none⟩)) rfl (by kernel_rfl)  (fun _ => y_faddr rfl Fa34x1) (fun _ => hS) ?_
           refine x_l 8 (.slice pa0 pn0 pc0) rfl (by kernel_rfl)  (fun w' hw' => y_load rfl ((box_load Ag32 Sz32 hb3 [(.int .i64 a_.1)] [(.slice pa0 pn0 pc0)] [] rfl rfl (fun _ => rfl)) w' hw')) hS ?_
           refine x_p 9 (.int .i64 k3334) rfl (by kernel_rfl)  (fun _ => y_move rfl) (fun _ => hS) ?_
           obtain ⟨x3362, hx3362, hs⟩ := bind_some hs
           obtain ⟨b3363, o3363, hp3363, ha3363⟩ := rs_idx Sl32 Sz36 h0 hx3362
           refine x_p 10 (.pointer (some ⟨b3363, o3363, none⟩)) rfl (by kernel_rfl)  (fun _ => hp3363 _ _ _ _ _ _ _ _ _ rfl rfl) (fun _ => hS) ?_
           obtain ⟨hq3364, _⟩ := pr_at ha3363
           refine x_p 11 (.pointer (some ⟨b3363, o3363 + 0, none⟩)) rfl (by kernel_rfl)  (fun _ => y_faddr rfl Fa36x0) (fun _ => hS) ?_
           refine x_l 12 (.int .i64 x3362.1) rfl (by kernel_rfl)  (fun w' hw' => y_load rfl ((at_load_int Ag3 Sz3 hq3364) w' hw')) hS ?_
           refine x_p 13 (.bool (decide (0 < x3362.1))) rfl (by kernel_rfl)  (fun _ => y_gtr rfl rfl) (fun _ => hS) ?_
           refine x_one (i := 6) (by kernel_rfl) ?_
           obtain ⟨y3366, hy3366, hs⟩ := bind_some hs
           obtain ⟨a3365, n3365, c3365, w3365, f3365, hm3365, hC3365, hfr3365, hv3365⟩ := mk_os (M := M3338) (w := w3358) (r := (RT.int .i64)) Rw25 hy3366 (fun _ _ => ⟨rfl, rfl⟩)
           refine xk_val (w' := w3365) (b := false) (.slice a3365 n3365 c3365) rfl  (y_make rfl rfl hm3365) rfl (fun _ => hS.ext hC3365) ?_
           have h0 := h0.ext hC3365
           have hb3 := hb3.chg hC3365 (fun h => nomatch h)
           have hv3339 := hv3339.ext hC3365
           have hv3341 := hv3341.ext hC3365
           have hC := hC.ext hC3365
           have hO := hO.new hC3365 hfr3365 (os_nodup hv3365) hv3365.fpl
           have hS := hS.ext hC3365
           refine x_p 14 (.slice a3365 n3365 c3365) rfl (by kernel_rfl)  (fun _ => y_assign rfl) (fun _ => hS) ?_
           refine x_p 15 (.bool (decide (0 < x3362.1))) rfl (by kernel_rfl)  (fun _ => y_assign rfl) (fun _ => hS) ?_
           refine x_end (by kernel_rfl) ?_
           clear hS
           obtain ⟨o3595, hl3596, hs⟩ := bind_some hs
           refine wp_block ?_
           refine wp_iter (id := 10) (I := fun s3591 a w3592 => ∃ (σ : Nat → Value) (M3597 : Nat → Prop) (a3598 : Option Addr) (n3598 : Nat) (c3598 : Nat) (a3600 : Option Addr) (n3600 : Nat) (c3600 : Nat) (f3600 : List Nat) (a3602 : Option Addr) (n3602 : Nat) (c3602 : Nat) (f3602 : List Nat), a = fr 172 (ovl σ [(1, (.int .i64 k)), (3, (.pointer (some ⟨g3, 0, none⟩))), (8, (.slice a3598 n3598 c3598)), (9, (.slice a3600 n3600 c3600)), (10, (.int .i64 r9)), (17, (.int .i64 s2566.2.2)), (18, (.int .i64 k3334)), (19, (.slice a3602 n3602 c3602)), (20, (.bool s3591.2.2.2))]) ∧ Chg [] w w3592 ∧ Own (Nw w []) M3597 w3592 (f3600 ++ (f3602 ++ (([g3]) ++ []))) ∧ Keeps w M M3597 ∧ (RT.rs (RT.pr (RT.int .i64) (RT.rs (RT.int .i64)))).val M3597 w3592 (.slice pa0 pn0 pc0) a_.2 ([]) ∧ BoxV w3592 g3 34 [(.int .i64 a_.1), (.slice pa0 pn0 pc0)] ∧ (RT.rs (RT.rs (RT.int .i64))).val M3597 w3592 (.slice a3598 n3598 c3598) s3591.1 ([]) ∧ (RT.os 25 (RT.rs (RT.int .i64))).val M3597 w3592 (.slice a3600 n3600 c3600) s3591.2.1 f3600 ∧ (RT.os 3 (RT.int .i64)).val M3597 w3592 (.slice a3602 n3602 c3602) s3591.2.2.1 f3602) (J := fun s3591 a w3592 => ∃ (σ : Nat → Value) (M3604 : Nat → Prop) (a3605 : Option Addr) (n3605 : Nat) (c3605 : Nat) (a3607 : Option Addr) (n3607 : Nat) (c3607 : Nat) (f3607 : List Nat) (a3609 : Option Addr) (n3609 : Nat) (c3609 : Nat) (f3609 : List Nat), a = fr 172 (ovl σ [(1, (.int .i64 k)), (3, (.pointer (some ⟨g3, 0, none⟩))), (8, (.slice a3605 n3605 c3605)), (9, (.slice a3607 n3607 c3607)), (10, (.int .i64 r9)), (17, (.int .i64 s2566.2.2)), (18, (.int .i64 k3334))]) ∧ Chg [] w w3592 ∧ Own (Nw w []) M3604 w3592 (f3607 ++ (f3609 ++ (([g3]) ++ []))) ∧ Keeps w M M3604 ∧ (RT.rs (RT.pr (RT.int .i64) (RT.rs (RT.int .i64)))).val M3604 w3592 (.slice pa0 pn0 pc0) a_.2 ([]) ∧ BoxV w3592 g3 34 [(.int .i64 a_.1), (.slice pa0 pn0 pc0)] ∧ (RT.rs (RT.rs (RT.int .i64))).val M3604 w3592 (.slice a3605 n3605 c3605) s3591.1 ([]) ∧ (RT.os 25 (RT.rs (RT.int .i64))).val M3604 w3592 (.slice a3607 n3607 c3607) s3591.2.1 f3607 ∧ (RT.os 3 (RT.int .i64)).val M3604 w3592 (.slice a3609 n3609 c3609) s3591.2.2.1 f3609) (K := (k_spec_l8Close M w)) ?_ FU (s3332.1, s3332.2, y3366, (decide (0 < x3362.1))) o3595 _ _ ?_ hl3596 ?_
           ·rintro s3591 o3595 a w3592 ⟨σ, M3597, a3598, n3598, c3598, a3600, n3600, c3600, f3600, a3602, n3602, c3602, f3602, rfl, hC, hO, hK, h0, hb3, hv3598, hv3600, hv3602⟩ hs
            refine c_seq ?_
            refine c_seq ?_
            refine c_mid (I := fun a w3612 => ∃ (σ : Nat → Value), a = fr 172 (ovl σ [(1, (.int .i64 k)), (3, (.pointer (some ⟨g3, 0, none⟩))), (8, (.slice a3598 n3598 c3598)), (9, (.slice a3600 n3600 c3600)), (10, (.int .i64 r9)), (17, (.int .i64 s2566.2.2)), (18, (.int .i64 k3334)), (19, (.slice a3602 n3602 c3602)), (20, (.bool s3591.2.2.2)), (134, (.bool (s3591.2.2.2 && (decide ((s3591.2.1.length : Int) ≤ r9)))))]) ∧ Chg [] w3592 w3612) ?_ ?_
            ·have hMid := Chg.refl [] w3592
             refine c_region ?_
             refine pl_val (.bool s3591.2.2.2) (y_move rfl) ?_
             refine pl_val (.bool s3591.2.2.2) (y_move rfl) ?_
             rcases Bool.eq_false_or_eq_true (s3591.2.2.2) with hc3614 | hc3614
             ·skip
              refine pl_yes (.slice a3600 n3600 c3600) (tg := 129) (by kernel_rfl) (congrArg Value.bool hc3614) (y_move rfl) ?_
              refine pl_yes (.int .i64 (s3591.2.1.length : Int)) (tg := 129) (by kernel_rfl) (congrArg Value.bool hc3614) (y_len' Sl49 (os_len hv3600) rfl) ?_
              refine pl_yes (.int .i64 r9) (tg := 129) (by kernel_rfl) (congrArg Value.bool hc3614) (y_move rfl) ?_
              refine pl_yes (.bool (decide ((s3591.2.1.length : Int) ≤ r9))) (tg := 129) (by kernel_rfl) (congrArg Value.bool hc3614) (y_leq rfl rfl) ?_
              refine pl_val (.bool (s3591.2.2.2 && (decide ((s3591.2.1.length : Int) ≤ r9)))) (y_pick_t (congrArg Value.bool hc3614) (congrArg Value.bool (by rw [hc3614]; rfl))) ?_
              refine c_nil ?_
              exact ⟨_, fr_ovl 172 ⟨rfl, rfl, rfl, rfl, rfl, rfl, rfl, rfl, rfl, rfl, trivial⟩, hMid⟩
             ·skip
              refine pl_not (tg := 129) (by kernel_rfl) (congrArg Value.bool hc3614) ?_
              refine pl_not (tg := 129) (by kernel_rfl) (congrArg Value.bool hc3614) ?_
              refine pl_not (tg := 129) (by kernel_rfl) (congrArg Value.bool hc3614) ?_
              refine pl_not (tg := 129) (by kernel_rfl) (congrArg Value.bool hc3614) ?_
              refine pl_val (.bool (s3591.2.2.2 && (decide ((s3591.2.1.length : Int) ≤ r9)))) (y_pick_f (congrArg Value.bool hc3614) (congrArg Value.bool (by rw [hc3614]; rfl))) ?_
              refine c_nil ?_
              exact ⟨_, fr_ovl 172 ⟨rfl, rfl, rfl, rfl, rfl, rfl, rfl, rfl, rfl, rfl, trivial⟩, hMid⟩
            ·rintro a1 w3612 ⟨σ, rfl, hCs3611⟩
             have h0 := h0.ext hCs3611
             have hb3 := hb3.chg hCs3611 (fun h => nomatch h)
             have hv3598 := hv3598.ext hCs3611
             have hv3600 := hv3600.ext hCs3611
             have hv3602 := hv3602.ext hCs3611
             have hC := hC.ext hCs3611
             have hO := hO.ext hCs3611
             rcases bif_some hs with ⟨hc3615, hs⟩ | ⟨hc3615, hs⟩
             ·skip
              refine c_condT (congrArg Value.bool hc3615) ?_
              refine wp_skip ?_
              refine wp_block ?_
              refine c_seq ?_
              refine c_seq (c_region ?_)
              refine pl_val (.slice a3602 n3602 c3602) (y_move rfl) ?_
              refine pl_val (.int .i64 s2566.2.2) (y_move rfl) ?_
              have hO := hO.fr1
              obtain ⟨r3617, hr3617, hs⟩ := bind_some hs
              refine pl_call Bd85 rfl (c_spec_l1Has (M := (Less M3597 f3602)) s3591.2.2.1 s2566.2.2 (((Frz.os Frz.int)).val hv3602 Less.sub Less.not) hO.less.fut hr3617) ?_
              rintro _ w3616 ⟨rfl, hC3616⟩
              have h0 := h0.ext hC3616
              have hb3 := hb3.chg hC3616 (fun h => nomatch h)
              have hv3598 := hv3598.ext hC3616
              have hv3600 := hv3600.ext hC3616
              have hv3602 := hv3602.ext hC3616
              have hC := hC.ext hC3616
              have hO := hO.ext hC3616
              refine c_nil ?_
              obtain ⟨s3674, hm3676, hs⟩ := bind_some hs
              refine c_mid (I := fun a w3675 => ∃ (σ : Nat → Value) (M3677 : Nat → Prop) (a3678 : Option Addr) (n3678 : Nat) (c3678 : Nat) (a3680 : Option Addr) (n3680 : Nat) (c3680 : Nat) (f3680 : List Nat), a = fr 172 (ovl σ [(1, (.int .i64 k)), (3, (.pointer (some ⟨g3, 0, none⟩))), (8, (.slice a3678 n3678 c3678)), (9, (.slice a3680 n3680 c3680)), (10, (.int .i64 r9)), (17, (.int .i64 s2566.2.2)), (18, (.int .i64 k3334)), (19, (.slice a3602 n3602 c3602)), (20, (.bool s3591.2.2.2))]) ∧ Chg [] w w3675 ∧ Own (Nw w []) M3677 w3675 (f3680 ++ (([g3]) ++ [])) ∧ Keeps w M M3677 ∧ (RT.rs (RT.pr (RT.int .i64) (RT.rs (RT.int .i64)))).val M3677 w3675 (.slice pa0 pn0 pc0) a_.2 ([]) ∧ BoxV w3675 g3 34 [(.int .i64 a_.1), (.slice pa0 pn0 pc0)] ∧ (RT.rs (RT.int .i64)).val M3677 w3675 (.slice a3602 n3602 c3602) s3674.2.2 ([]) ∧ (RT.rs (RT.rs (RT.int .i64))).val M3677 w3675 (.slice a3678 n3678 c3678) s3674.1 ([]) ∧ (RT.os 25 (RT.rs (RT.int .i64))).val M3677 w3675 (.slice a3680 n3680 c3680) s3674.2.1 f3680) ?_ ?_
              ·replace hs := hm3676
               rcases bif_some hs with ⟨hc3683, hs⟩ | ⟨hc3683, hs⟩
               ·skip
                refine c_condT (congrArg Value.bool hc3683) ?_
                refine c_seq ?_
                refine x_start [] Mx rfl ?_
                have hCw3692 := Chg.drew w3616
                generalize World.drew w3616 = w3692 at hCw3692 ⊢
                have h0 := h0.ext hCw3692
                have hb3 := hb3.chg hCw3692 (fun h => nomatch h)
                have hv3598 := hv3598.ext hCw3692
                have hv3600 := hv3600.ext hCw3692
                have hv3602 := hv3602.ext hCw3692
                have hC := hC.ext hCw3692
                have hO := hO.ext hCw3692
                have hS := Chg.refl [] w3692
                refine x_l 0 (.agg #[(.int .i64 a_.1), (.slice pa0 pn0 pc0)]) rfl (by kernel_rfl)  (fun w' hw' => y_load rfl ((box_load Ag34 Sz34 hb3 [] [(.int .i64 a_.1), (.slice pa0 pn0 pc0)] [] rfl rfl (fun h => nomatch h)) w' hw')) hS ?_
                refine x_p 1 (.int .i64 k3334) rfl (by kernel_rfl)  (fun _ => y_move rfl) (fun _ => hS) ?_
                refine x_p 2 (.slice a3600 n3600 c3600) rfl (by kernel_rfl)  (fun _ => y_move rfl) (fun _ => hS) ?_
                refine x_p 3 (.slice a3602 n3602 c3602) rfl (by kernel_rfl)  (fun _ => y_move rfl) (fun _ => hS) ?_
                refine x_p 5 (.int .i64 k) rfl (by kernel_rfl)  (fun _ => y_move rfl) (fun _ => hS) ?_
                refine x_one (i := 4) (by kernel_rfl) ?_
                obtain ⟨M3694, eM3694, hs3694, hk3694, hO, hv3694⟩ := frz_own (Frz.os Frz.int) hv3602 hO
                have h0 := h0.sub (M' := M3694) hs3694
                have hv3598 := hv3598.sub (M' := M3694) hs3694
                have hv3600 := hv3600.sub (M' := M3694) hs3694
                have hK := hK.trans hk3694
                obtain ⟨r3695, hr3695, hs⟩ := bind_some hs
                refine xk_call (b := false) rfl  Bd86 rfl (c_spec_l8Choose__sh (M := M3694) s3591.2.1 s3591.2.2.1 hv3600 hv3694 hO.fut hr3695) rfl (by rintro _ _ _ ⟨a3693x0, n3693x0, c3693x0, rfl, hC3693, hv3693x0⟩; exact hS.ext hC3693) ?_
                rintro _ w3693 ⟨a3693x0, n3693x0, c3693x0, rfl, hC3693, hv3693x0⟩
                have hK := hK.trans (show Keeps w M3694 (Past M3694 w3692 w3693) from Keeps.past hC.size)
                have h0 := h0.ext hC3693
                have hb3 := hb3.chg hC3693 (fun h => nomatch h)
                have hv3598 := hv3598.ext hC3693
                have hv3600 := hv3600.ext hC3693
                have hv3694 := hv3694.ext hC3693
                have hC := hC.ext hC3693
                have hO := hO.past hC3693
                have h0 := h0.sub (M' := (Past M3694 w3692 w3693)) (fun g hg => .inl hg.1)
                have hv3598 := hv3598.sub (M' := (Past M3694 w3692 w3693)) (fun g hg => .inl hg.1)
                have hv3600 := hv3600.sub (M' := (Past M3694 w3692 w3693)) (fun g hg => .inl hg.1)
                have hv3694 := hv3694.sub (M' := (Past M3694 w3692 w3693)) (fun g hg => .inl hg.1)
                have hS := hS.ext hC3693
                refine x_one (i := 6) (by kernel_rfl) ?_
                obtain ⟨r3698, hr3698, hs⟩ := bind_some hs
                refine xk_call (b := false) rfl  Bd83 rfl (c_spec_l8Apply (M := (Past M3694 w3692 w3693)) (a_.1, a_.2) k3334 r3695 k h0 hv3693x0 hO.fut hr3698) rfl (by rintro _ _ _ ⟨a3697x0, n3697x0, c3697x0, f3697x0, rfl, hC3697, hv3697x0, hOc3697⟩; exact hS.ext hC3697) ?_
                rintro _ w3697 ⟨a3697x0, n3697x0, c3697x0, f3697x0, rfl, hC3697, hv3697x0, hOc3697⟩
                have h0 := h0.ext hC3697
                have hb3 := hb3.chg hC3697 (fun h => nomatch h)
                have hv3598 := hv3598.ext hC3697
                have hv3600 := hv3600.ext hC3697
                have hv3694 := hv3694.ext hC3697
                have hv3693x0 := hv3693x0.ext hC3697
                have hC := hC.ext hC3697
                have hO := Own.join0 hO hC3697 hOc3697
                have hO := hO.perm (R := f3697x0 ++ (f3600 ++ (([g3]) ++ ([])))) (by simp)
                have hS := hS.ext hC3697
                refine x_p 7 (.slice a3697x0 n3697x0 c3697x0) rfl (by kernel_rfl)  (fun _ => y_assign rfl) (fun _ => hS) ?_
                refine x_end (by kernel_rfl) ?_
                clear hS
                refine c_seq (c_region ?_)
                refine pl_val (.slice a3598 n3598 c3598) (y_move rfl) ?_
                refine pl_val (.slice a3697x0 n3697x0 c3697x0) (y_move rfl) ?_
                obtain ⟨r3701, hr3701, hs⟩ := bind_some hs
                refine pl_call Bd71 rfl (c_spec_l8Find (M := (Less (Past M3694 w3692 w3693) f3697x0)) s3591.1 r3698 (hv3598.sub Less.sub) (((Frz.os Frz.int)).val hv3697x0 Less.sub Less.not) hO.less.fut hr3701) ?_
                rintro _ w3700 ⟨rfl, hC3700⟩
                have h0 := h0.ext hC3700
                have hb3 := hb3.chg hC3700 (fun h => nomatch h)
                have hv3598 := hv3598.ext hC3700
                have hv3600 := hv3600.ext hC3700
                have hv3694 := hv3694.ext hC3700
                have hv3693x0 := hv3693x0.ext hC3700
                have hv3697x0 := hv3697x0.ext hC3700
                have hC := hC.ext hC3700
                have hO := hO.ext hC3700
                refine pl_val (.tuple #[(.int .i64 r3701.1), (.bool r3701.2)]) (y_move rfl) ?_
                refine pl_val (.int .i64 r3701.1) (y_extract rfl (by kernel_rfl)) ?_
                refine pl_val (.bool r3701.2) (y_extract rfl (by kernel_rfl)) ?_
                refine pl_val (.int .i64 r3701.1) (y_assign rfl) ?_
                refine pl_val (.bool r3701.2) (y_assign rfl) ?_
                refine c_nil ?_
                refine c_seq (c_region ?_)
                refine pl_val (.bool r3701.2) (y_move rfl) ?_
                refine pl_val (.bool (!r3701.2)) (y_not rfl) ?_
                refine c_nil ?_
                rcases bif_some hs with ⟨hc3702, hs⟩ | ⟨hc3702, hs⟩
                ·skip
                 refine c_condT (congrArg Value.bool hc3702) ?_
                 refine c_seq (c_region ?_)
                 refine pl_val (.slice a3598 n3598 c3598) (y_move rfl) ?_
                 refine pl_val (.slice a3697x0 n3697x0 c3697x0) (y_move rfl) ?_
                 obtain ⟨M3704, eM3704, hs3704, hk3704, hO, hv3704⟩ := frz_own (Frz.os Frz.int) hv3697x0 hO
                 have h0 := h0.sub (M' := M3704) hs3704
                 have hv3598 := hv3598.sub (M' := M3704) hs3704
                 have hv3600 := hv3600.sub (M' := M3704) hs3704
                 have hv3694 := hv3694.sub (M' := M3704) hs3704
                 have hK := hK.trans hk3704
                 obtain ⟨r3705, hr3705, hs⟩ := bind_some hs
                 refine pl_call Bd84 rfl (c_spec_l8Put (M := M3704) s3591.1 r3698 hv3598 hv3704 hO.fut hr3705) ?_
                 rintro _ w3703 ⟨a3703x0, n3703x0, c3703x0, rfl, hC3703, hv3703x0⟩
                 have hK := hK.trans (show Keeps w M3704 (Past M3704 w3700 w3703) from Keeps.past hC.size)
                 have h0 := h0.ext hC3703
                 have hb3 := hb3.chg hC3703 (fun h => nomatch h)
                 have hv3598 := hv3598.ext hC3703
                 have hv3600 := hv3600.ext hC3703
                 have hv3694 := hv3694.ext hC3703
                 have hv3704 := hv3704.ext hC3703
                 have hC := hC.ext hC3703
                 have hO := hO.past hC3703
                 have h0 := h0.sub (M' := (Past M3704 w3700 w3703)) (fun g hg => .inl hg.1)
                 have hv3598 := hv3598.sub (M' := (Past M3704 w3700 w3703)) (fun g hg => .inl hg.1)
                 have hv3600 := hv3600.sub (M' := (Past M3704 w3700 w3703)) (fun g hg => .inl hg.1)
                 have hv3694 := hv3694.sub (M' := (Past M3704 w3700 w3703)) (fun g hg => .inl hg.1)
                 have hv3704 := hv3704.sub (M' := (Past M3704 w3700 w3703)) (fun g hg => .inl hg.1)
                 refine pl_val (.slice a3703x0 n3703x0 c3703x0) (y_assign rfl) ?_
                 refine c_nil ?_
                 refine c_region ?_
                 refine pl_val (.slice a3600 n3600 c3600) (y_move rfl) ?_
                 refine pl_val (.slice a3697x0 n3697x0 c3697x0) (y_move rfl) ?_
                 obtain ⟨w3707, g3707, ew3707, eg3707, hC3707, hb3707⟩ := new_block w3703 [(.slice a3697x0 n3697x0 c3697x0)] 25
                 refine pl_val (w' := w3707) (.slice (some ⟨g3707, 0, none⟩) 1 1) (y_bslice rfl (by rw [ew3707, eg3707]; kernel_rfl)) ?_
                 have h0 := h0.ext hC3707
                 have hb3 := hb3.chg hC3707 (fun h => nomatch h)
                 have hv3600 := hv3600.ext hC3707
                 have hv3694 := hv3694.ext hC3707
                 have hv3704 := hv3704.ext hC3707
                 have hv3703x0 := hv3703x0.ext hC3707
                 have hC := hC.ext hC3707
                 have hO := hO.new1 hC3707 eg3707 hb3707.lt
                 have hv3707 := os_of_box (r := (RT.rs (RT.int .i64))) (M := (Past M3704 w3700 w3703)) (css := [[(.slice a3697x0 n3697x0 c3697x0)]]) (fps := [([] : List Nat)]) (xs := ([r3698] : List (List Int))) hb3707 ⟨(rs_unval hv3704), trivial⟩ (Nat.le_of_ble_eq_true rfl) (List.nodup_cons.2 ⟨(fun h => nomatch h), List.nodup_nil⟩)
                 have hv3707 : (RT.os 25 (RT.rs (RT.int .i64))).val (Past M3704 w3700 w3703) w3707 (.slice (some ⟨g3707, 0, none⟩) 1 1) [r3698] [g3707] := hv3707
                 obtain ⟨y3710, hy3710, hs⟩ := bind_some hs
                 have hO := hO.fr1
                 obtain ⟨a3709, n3709, c3709, w3709, f3709, hr3709, hC3709, hf3709, hv3709⟩ := app_os Rw49 hy3710 hv3600 hv3707 hO.inM (fun g hg hq => hO.apart g hq (mem_l hg))
                 have hG3709 := os_block hv3600
                 refine pl_val (w' := w3709) (.slice a3709 n3709 c3709) (y_append rfl rfl (hr3709 _)) ?_
                 have hO := hO.fr1
                 have hO := hO.fr1
                 have h0 := h0.mut hC3709 (fun g hg => hO.inM g (hG3709 g hg)) (fun _ _ h => nomatch h)
                 have hb3 := hb3.chg hC3709 (fun hg => hO.apart _ (hG3709 _ hg) (mem_r (mem_l (List.mem_singleton.2 rfl))))
                 have hv3694 := hv3694.mut hC3709 (fun g hg => hO.inM g (hG3709 g hg)) (fun _ _ h => nomatch h)
                 have hv3704 := hv3704.mut hC3709 (fun g hg => hO.inM g (hG3709 g hg)) (fun _ _ h => nomatch h)
                 have hv3703x0 := hv3703x0.mut hC3709 (fun g hg => hO.inM g (hG3709 g hg)) (fun _ _ h => nomatch h)
                 have hC := hC.step hC3709 (fun g hg => hO.inN g (hG3709 g hg))
                 have hO := hO.eat hC3709 hf3709 (os_nodup hv3709) hv3709.fpl
                 refine pl_val (.slice a3709 n3709 c3709) (y_assign rfl) ?_
                 refine c_nil ?_
                 cases hs
                 have hO := hO.fr1
                 have hO := hO.fr1
                 exact ⟨_, (Past M3704 w3700 w3703), a3703x0, n3703x0, c3703x0, a3709, n3709, c3709, f3709, fr_ovl 172 ⟨rfl, rfl, rfl, rfl, rfl, rfl, rfl, rfl, rfl, trivial⟩, hC, hO, hK, h0, hb3, hv3694, hv3703x0, hv3709⟩
                ·skip
                 refine c_condF (congrArg Value.bool hc3702) ?_
                 refine wp_skip ?_
                 cases hs
                 have hO := hO.drop
                 have hO := hO.fr1
                 have hO := hO.fr1
                 exact ⟨_, (Past M3694 w3692 w3693), a3598, n3598, c3598, a3600, n3600, c3600, f3600, fr_ovl 172 ⟨rfl, rfl, rfl, rfl, rfl, rfl, rfl, rfl, rfl, trivial⟩, hC, hO, hK, h0, hb3, hv3694, hv3598, hv3600⟩
               ·skip
                refine c_condF (congrArg Value.bool hc3683) ?_
                refine wp_skip ?_
                cases hs
                obtain ⟨M3712, eM3712, hs3712, hk3712, hO, hv3712⟩ := frz_own (Frz.os Frz.int) hv3602 hO
                have h0 := h0.sub (M' := M3712) hs3712
                have hv3598 := hv3598.sub (M' := M3712) hs3712
                have hv3600 := hv3600.sub (M' := M3712) hs3712
                have hK := hK.trans hk3712
                have hO := hO.fr1
                have hO := hO.fr1
                exact ⟨_, M3712, a3598, n3598, c3598, a3600, n3600, c3600, f3600, fr_ovl 172 ⟨rfl, rfl, rfl, rfl, rfl, rfl, rfl, rfl, rfl, trivial⟩, hC, hO, hK, h0, hb3, hv3712, hv3598, hv3600⟩
              ·rintro a1 w3675 ⟨σ, M3677, a3678, n3678, c3678, a3680, n3680, c3680, f3680, rfl, hC, hO, hK, h0, hb3, hv3682, hv3678, hv3680⟩
               refine c_region ?_
               refine pl_val (.slice a3602 n3602 c3602) (y_move rfl) ?_
               refine pl_val (.int .i64 s2566.2.2) (y_move rfl) ?_
               refine pl_val (.int .i64 (w64 (s2566.2.2 + 1))) (y_add rfl rfl) ?_
               obtain ⟨r3714, hr3714, hs⟩ := bind_some hs
               refine pl_call Bd87 rfl (c_spec_l8Next (M := M3677) s3674.2.2 (w64 (s2566.2.2 + 1)) hv3682 hO.fut hr3714) ?_
               rintro _ w3713 ⟨a3713x0, n3713x0, c3713x0, f3713x0, rfl, hC3713, hv3713x0, hOc3713⟩
               have h0 := h0.ext hC3713
               have hb3 := hb3.chg hC3713 (fun h => nomatch h)
               have hv3682 := hv3682.ext hC3713
               have hv3678 := hv3678.ext hC3713
               have hv3680 := hv3680.ext hC3713
               have hC := hC.ext hC3713
               have hO := Own.join0 hO hC3713 hOc3713
               have hO := hO.perm (R := f3713x0 ++ (f3680 ++ (([g3]) ++ ([])))) (by simp)
               refine pl_val (.tuple #[(.slice a3713x0 n3713x0 c3713x0), (.bool r3714.2)]) (y_move rfl) ?_
               refine pl_val (.slice a3713x0 n3713x0 c3713x0) (y_extract rfl (by kernel_rfl)) ?_
               refine pl_val (.bool r3714.2) (y_extract rfl (by kernel_rfl)) ?_
               refine pl_val (.slice a3713x0 n3713x0 c3713x0) (y_assign rfl) ?_
               refine pl_val (.bool r3714.2) (y_assign rfl) ?_
               refine c_nil ?_
               cases hs
               have hO := hO.fr2
               have hO := hO.fr1
               have hO := hO.fr2
               exact ⟨_, M3677, a3678, n3678, c3678, a3680, n3680, c3680, f3680, a3713x0, n3713x0, c3713x0, f3713x0, fr_ovl 172 ⟨rfl, rfl, rfl, rfl, rfl, rfl, rfl, rfl, rfl, trivial⟩, hC, hO, hK, h0, hb3, hv3678, hv3680, hv3713x0⟩
             ·skip
              refine c_condF (congrArg Value.bool hc3615) ?_
              refine wp_exit ?_
              cases hs
              have hO := hO.fr2
              have hO := hO.fr2
              have hO := hO.fr2
              exact ⟨rfl, _, M3597, a3598, n3598, c3598, a3600, n3600, c3600, f3600, a3602, n3602, c3602, f3602, fr_ovl 172 ⟨rfl, rfl, rfl, rfl, rfl, rfl, rfl, trivial⟩, hC, hO, hK, h0, hb3, hv3598, hv3600, hv3602⟩
           ·skip
            have hO := hO.fr2
            have hO := hO.fr1
            have hO := hO.fr2
            exact ⟨_, M3338, a3339, n3339, c3339, a3341, n3341, c3341, f3341, a3365, n3365, c3365, f3365, fr_ovl 172 ⟨rfl, rfl, rfl, rfl, rfl, rfl, rfl, rfl, rfl, trivial⟩, hC, hO, hK, h0, hb3, hv3339, hv3341, hv3365⟩
           ·cases o3595 with
            | nx _ => exact True.intro
            | rt r_ =>
             have hs := after_rt hs
             intro a1 w1 hK
             cases hs
             exact hK
            | br s3591 =>
             have hs := after_br hs
             rintro a1 w3592 ⟨σ, M3604, a3605, n3605, c3605, a3607, n3607, c3607, f3607, a3609, n3609, c3609, f3609, rfl, hC, hO, hK, h0, hb3, hv3605, hv3607, hv3609⟩
             refine c_region ?_
             refine pl_val (.int .i64 k3334) (y_move rfl) ?_
             refine pl_val (.int .i64 (w64 (k3334 + 1))) (y_add rfl rfl) ?_
             refine pl_val (.int .i64 (w64 (k3334 + 1))) (y_assign rfl) ?_
             refine c_nil ?_
             cases hs
             have hO := hO.fr1
             have hO := hO.drop
             have hO := hO.fr1
             have hO := hO.fr1
             exact ⟨_, M3604, a3605, n3605, c3605, a3607, n3607, c3607, f3607, fr_ovl 172 ⟨rfl, rfl, rfl, rfl, rfl, rfl, congrArg (Value.int .i64) hw, trivial⟩, hC, hO, hK, h0, hb3, hv3605, hv3607⟩
          ·skip
           have hO := hO.fr1
           have hO := hO.fr1
           exact ⟨_, M2572, a2573, n2573, c2573, a2575, n2575, c2575, f2575, fr_ovl 172 ⟨rfl, rfl, rfl, rfl, rfl, rfl, rfl, trivial⟩, hC, hO, hK, h0, hb3, hv2573, hv2575⟩
          ·cases o3336 with
           | nx _ => exact True.intro
           | rt r_ =>
            have hs := after_rt hs
            intro a1 w1 hK
            cases hs
            exact hK
           | br s3332 =>
            have hs := after_br hs
            rintro a1 w3333 ⟨σ, M3343, a3344, n3344, c3344, a3346, n3346, c3346, f3346, rfl, hC, hO, hK, h0, hb3, hv3344, hv3346⟩
            refine c_region ?_
            refine pl_val (.int .i64 s2566.2.2) (y_move rfl) ?_
            refine pl_val (.int .i64 (w64 (s2566.2.2 + 1))) (y_add rfl rfl) ?_
            refine pl_val (.int .i64 (w64 (s2566.2.2 + 1))) (y_assign rfl) ?_
            refine c_nil ?_
            cases hs
            have hO := hO.fr1
            have hO := hO.fr1
            exact ⟨_, M3343, a3344, n3344, c3344, a3346, n3346, c3346, f3346, fr_ovl 172 ⟨rfl, rfl, rfl, rfl, rfl, rfl, trivial⟩, hC, hO, hK, h0, hb3, hv3344, hv3346⟩
         ·skip
          refine c_condF (congrArg Value.bool hc2586) ?_
          refine wp_exit ?_
          cases hs
          have hO := hO.fr1
          have hO := hO.fr1
          exact ⟨rfl, _, M2572, a2573, n2573, c2573, a2575, n2575, c2575, f2575, fr_ovl 172 ⟨rfl, rfl, trivial⟩, hC, hO, hK, h0, hb3, hv2573, hv2575⟩
       ·skip
        have hO := hO.fr1
        have hO := hO.fr1
        exact ⟨_, M260, a261, n261, c261, a263, n263, c263, f263, fr_ovl 172 ⟨rfl, rfl, rfl, rfl, rfl, rfl, trivial⟩, hC, hO, hK, h0, hb3, hv261, hv263⟩
       ·cases o2570 with
        | nx _ => exact True.intro
        | rt r_ =>
         have hs := after_rt hs
         intro a1 w1 hK
         cases hs
         exact hK
        | br s2566 =>
         have hs := after_br hs
         rintro a1 w2567 ⟨σ, M2577, a2578, n2578, c2578, a2580, n2580, c2580, f2580, rfl, hC, hO, hK, h0, hb3, hv2578, hv2580⟩
         refine c_seq (c_region ?_)
         refine pl_val (.slice a2578 n2578 c2578) (y_move rfl) ?_
         refine pl_val (.slice a2578 n2578 c2578) (y_move rfl) ?_
         refine pl_val (.int .i64 (s2566.1.length : Int)) (y_len' Sl49 (rs_len hv2578) rfl) ?_
         refine pl_val (.int .i64 r9) (y_move rfl) ?_
         refine pl_val (.bool (decide ((s2566.1.length : Int) ≤ r9))) (y_leq rfl rfl) ?_
         refine pl_val (.slice a2578 n2578 c2578) (y_assign rfl) ?_
         refine pl_val (.bool (decide ((s2566.1.length : Int) ≤ r9))) (y_assign rfl) ?_
         refine c_nil ?_
         refine wp_ret ?_
         cases hs
         exact ⟨_, a2578, n2578, c2578, fr_ovl 172 ⟨rfl, rfl, trivial⟩, hC, (Keeps.out hK hv2578)⟩

def k_spec_l2Args (M : Nat → Prop) (w0 : World) (r : (List Int)) (a : Act) (w : World) : Prop :=
  ∃ (σ : Nat → Value) (ra0 : Option Addr) (rn0 rc0 : Nat) (rf0 : List Nat), a = fr 27 (ovl σ [(6, (.slice ra0 rn0 rc0))]) ∧ Chg [] w0 w ∧ (RT.os 3 (RT.int .i64)).val M w (.slice ra0 rn0 rc0) r rf0 ∧ Own (Nw w0 []) (fun _ => True) w (rf0 ++ ([]))
def s_spec_l2Args (n : Int) (arity : Int) (at_ : Int) : Option ((List Int)) :=
  (mks arity (0 : Int)).bind fun y2 =>
  (iter (S := Int × Int × (List Int)) (R := (List Int)) (fun s17 =>
  (bif (decide (0 ≤ s17.2.1)) then (nz n).bind fun u26 =>
  (idx s17.2.2 s17.2.1).bind fun x27 =>
  (nz n).bind fun u30 =>
  some (.nx (w64 (Int.tdiv s17.1 n), w64 (s17.2.1 - 1), List.set s17.2.2 (Int.toNat s17.2.1) (Int.tmod s17.1 n))) else some (.br (s17.1, s17.2.1, s17.2.2)))) FU (at_, w64 (arity - 1), y2)).bind fun o21 => after o21 (fun r_ => some r_) (fun s17 =>
  some s17.2.2)
set_option maxHeartbeats 4000000 in
theorem c_spec_l2Args {M : Nat → Prop} {w : World}  (n : Int) (arity : Int) (at_ : Int)  (hM : ∀ g, w.heap.size ≤ g → M g) {r : (List Int)} (hs : s_spec_l2Args n arity at_ = some r) :
    Gives Try.prog 70 [(.int .i64 n), (.int .i64 arity), (.int .i64 at_)] w (fun v w' => ∃ (ra0 : Option Addr) (rn0 rc0 : Nat) (rf0 : List Nat), v = (.slice ra0 rn0 rc0) ∧ Chg [] w w' ∧ (RT.os 3 (RT.int .i64)).val M w' (.slice ra0 rn0 rc0) r rf0 ∧ Own (Nw w []) (fun _ => True) w' (rf0 ++ ([]))) := by
 refine calls_fr Try.func70 rfl Try.ntmps70 (Nat.le_of_ble_eq_true rfl) ?_
 have hO := Own.start (N := Nw w []) hM Nw.fut
 have hC := Chg.refl [] w
 unfold s_spec_l2Args at hs
 refine wp_mono (Q := KPost (k_spec_l2Args M w r)) ?_ (fun e a w1 h => ?_)
 rotate_left
 ·cases e
  case ret =>
   obtain ⟨σ, ra0, rn0, rc0, rf0, rfl, hrest⟩ := h
   exact ret1x Try.results70 (res_tmp rfl) ⟨ra0, rn0, rc0, rf0, rfl, hrest⟩
  all_goals exact (h : False).elim
 refine c_seq (c_region ?_)
 refine pl_val (.slice none 0 0) (y_assign rfl) ?_
 refine c_nil ?_
 refine c_seq (c_region ?_)
 refine pl_val (.int .i64 arity) (y_move rfl) ?_
 obtain ⟨y2, hy2, hs⟩ := bind_some hs
 obtain ⟨a1, n1, c1, w1, f1, hm1, hC1, hfr1, hv1⟩ := mk_os (M := M) (w := w) (r := (RT.int .i64)) Rw25 hy2 (fun _ _ => ⟨rfl, rfl⟩)
 refine pl_val (w' := w1) (.slice a1 n1 c1) (y_make rfl rfl hm1) ?_
 have hC := hC.ext hC1
 have hO := hO.new hC1 hfr1 (os_nodup hv1) hv1.fpl
 refine pl_val (.slice a1 n1 c1) (y_assign rfl) ?_
 refine c_nil ?_
 refine c_seq ?_
 refine c_seq (c_region ?_)
 refine pl_val (.int .i64 arity) (y_move rfl) ?_
 refine pl_val (.int .i64 (w64 (arity - 1))) (y_sub rfl rfl) ?_
 refine pl_val (.int .i64 (w64 (arity - 1))) (y_assign rfl) ?_
 refine c_nil ?_
 obtain ⟨o21, hl22, hs⟩ := bind_some hs
 refine wp_block ?_
 refine wp_iter (id := 0) (I := fun s17 a w18 => ∃ (σ : Nat → Value) (f23 : List Nat), a = fr 27 (ovl σ [(0, (.int .i64 n)), (2, (.int .i64 s17.1)), (7, (.slice a1 n1 c1)), (8, (.int .i64 s17.2.1))]) ∧ Chg [] w w18 ∧ Own (Nw w []) M w18 (f23 ++ []) ∧ (RT.os 3 (RT.int .i64)).val M w18 (.slice a1 n1 c1) s17.2.2 f23) (J := fun s17 a w18 => ∃ (σ : Nat → Value) (f24 : List Nat), a = fr 27 (ovl σ [(7, (.slice a1 n1 c1))]) ∧ Chg [] w w18 ∧ Own (Nw w []) M w18 (f24 ++ []) ∧ (RT.os 3 (RT.int .i64)).val M w18 (.slice a1 n1 c1) s17.2.2 f24) (K := (k_spec_l2Args M w)) ?_ FU (at_, w64 (arity - 1), y2) o21 _ _ ?_ hl22 ?_
 ·rintro s17 o21 a w18 ⟨σ, f23, rfl, hC, hO, hv23⟩ hs
  refine c_seq ?_
  refine c_seq (c_region ?_)
  refine pl_val (.int .i64 s17.2.1) (y_move rfl) ?_
  refine pl_val (.bool (decide (0 ≤ s17.2.1))) (y_geq rfl rfl) ?_
  refine c_nil ?_
  rcases bif_some hs with ⟨hc25, hs⟩ | ⟨hc25, hs⟩
  ·skip
   refine c_condT (congrArg Value.bool hc25) ?_
   refine wp_skip ?_
   refine c_seq ?_
   refine wp_block ?_
   refine c_seq (c_region ?_)
   refine pl_val (.slice a1 n1 c1) (y_move rfl) ?_
   refine pl_val (.int .i64 s17.2.1) (y_move rfl) ?_
   refine pl_val (.int .i64 s17.1) (y_move rfl) ?_
   refine pl_val (.int .i64 n) (y_move rfl) ?_
   obtain ⟨u26, hu26, hs⟩ := bind_some hs
   refine pl_val (.int .i64 (Int.tmod s17.1 n)) (y_rem rfl rfl (nz_ne hu26)) ?_
   obtain ⟨x27, hx27, hs⟩ := bind_some hs
   obtain ⟨g28, f28, hg28, hk28, hp28, ha28, hf28⟩ := os_idx Sl25 Sz3 hv23 hx27
   refine pl_val (.pointer (some ⟨g28, 0 + Int.toNat s17.2.1 * 1, none⟩)) (hp28 _ _ _ _ _ _ _ _ _ rfl rfl) ?_
   obtain ⟨w29, f29, hst29, hC29, hf29, hv29⟩ := os_store (P := Try.prog) (c' := [(.int .i64 (Int.tmod s17.1 n))]) hg28 hv23 hk28 (fun g hg => hO.inM g (os_block hv23 g (by simpa using hg))) ⟨rfl, rfl⟩ List.nodup_nil (fun _ h => nomatch h) (fun _ h => .inl h)
   have hG29 : ∀ q ∈ [g28], q ∈ f23 := fun q hq => os_block hv23 q (by rw [hg28]; exact hq)
   refine pl_skip (w' := w29) (ys_store rfl rfl (hst29 _ _ rfl Sz3)) ?_
   have hC := hC.step hC29 (fun g hg => hO.inN g (hG29 g hg))
   have hO := hO.grow hC29 (fun q hq => .inl ((hf29 q hq).resolve_right (fun h => nomatch h))) (os_nodup hv29) hv29.fpl
   refine c_nil ?_
   refine c_region ?_
   refine pl_val (.int .i64 s17.1) (y_move rfl) ?_
   refine pl_val (.int .i64 n) (y_move rfl) ?_
   obtain ⟨u30, hu30, hs⟩ := bind_some hs
   refine pl_val (.int .i64 (w64 (Int.tdiv s17.1 n))) (y_quo rfl rfl (nz_ne hu30)) ?_
   refine pl_val (.int .i64 (w64 (Int.tdiv s17.1 n))) (y_assign rfl) ?_
   refine c_nil ?_
   refine c_region ?_
   refine pl_val (.int .i64 s17.2.1) (y_move rfl) ?_
   refine pl_val (.int .i64 (w64 (s17.2.1 - 1))) (y_sub rfl rfl) ?_
   refine pl_val (.int .i64 (w64 (s17.2.1 - 1))) (y_assign rfl) ?_
   refine c_nil ?_
   cases hs
   exact ⟨_, f29, fr_ovl 27 ⟨rfl, rfl, rfl, rfl, trivial⟩, hC, hO, hv29⟩
  ·skip
   refine c_condF (congrArg Value.bool hc25) ?_
   refine wp_exit ?_
   cases hs
   exact ⟨rfl, _, f23, fr_ovl 27 ⟨rfl, trivial⟩, hC, hO, hv23⟩
 ·skip
  exact ⟨_, f1, fr_ovl 27 ⟨rfl, rfl, rfl, rfl, trivial⟩, hC, hO, hv1⟩
 ·cases o21 with
  | nx _ => exact True.intro
  | rt r_ =>
   have hs := after_rt hs
   intro a1 w1 hK
   cases hs
   exact hK
  | br s17 =>
   have hs := after_br hs
   rintro a1 w18 ⟨σ, f24, rfl, hC, hO, hv24⟩
   refine c_seq (c_region ?_)
   refine pl_val (.slice a1 n1 c1) (y_move rfl) ?_
   refine pl_val (.slice a1 n1 c1) (y_assign rfl) ?_
   refine c_nil ?_
   refine wp_ret ?_
   cases hs
   exact ⟨_, a1, n1, c1, f24, fr_ovl 27 ⟨rfl, trivial⟩, hC, hv24, hO.top⟩

def k_spec_l18Before (M : Nat → Prop) (w0 : World) (r : Bool) (a : Act) (w : World) : Prop :=
  ∃ (σ : Nat → Value) , a = fr 41 (ovl σ [(4, (.bool r))]) ∧ Chg [] w0 w
def s_spec_l18Before (r_ : List (List Int)) (s_ : List (List Int)) : Option (Bool) :=
  (bif ((r_.length : Int) != (s_.length : Int)) then some (decide ((r_.length : Int) < (s_.length : Int))) else (forC (S := Unit) (R := Bool) (fun k40 s38 =>
  (idx r_ k40).bind fun x56 =>
  (idx s_ k40).bind fun x60 =>
  (s_spec_l1Same x56 x60).bind fun r66 =>
  (bif (!r66) then (idx r_ k40).bind fun x69 =>
  (idx s_ k40).bind fun x73 =>
  (s_spec_l3Less x69 x73).bind fun r78 =>
  some (.rt r78) else some (.nx ()))) 0 (r_.length : Int) ()).bind fun o42 => after o42 (fun r_ => some r_) (fun s38 =>
  some false))
set_option maxHeartbeats 4000000 in
theorem c_spec_l18Before {M : Nat → Prop} {w : World} {pa0 : Option Addr} {pn0 pc0 : Nat} {pa1 : Option Addr} {pn1 pc1 : Nat} (r_ : List (List Int)) (s_ : List (List Int)) (h0 : (RT.rs (RT.rs (RT.int .i64))).val M w (.slice pa0 pn0 pc0) r_ ([])) (h1 : (RT.rs (RT.rs (RT.int .i64))).val M w (.slice pa1 pn1 pc1) s_ ([])) (hM : ∀ g, w.heap.size ≤ g → M g) {r : Bool} (hs : s_spec_l18Before r_ s_ = some r) :
    Gives Try.prog 90 [(.slice pa0 pn0 pc0), (.slice pa1 pn1 pc1)] w (fun v w' => v = (.bool r) ∧ Chg [] w w') := by
 refine calls_fr Try.func90 rfl Try.ntmps90 (Nat.le_of_ble_eq_true rfl) ?_
 have hO := Own.start (N := Nw w []) hM Nw.fut
 have hC := Chg.refl [] w
 unfold s_spec_l18Before at hs
 refine wp_mono (Q := KPost (k_spec_l18Before M w r)) ?_ (fun e a w1 h => ?_)
 rotate_left
 ·cases e
  case ret =>
   obtain ⟨σ, rfl, hrest⟩ := h
   exact ret1x Try.results90 (res_tmp rfl) ⟨rfl, hrest⟩
  all_goals exact (h : False).elim
 refine c_seq (c_region ?_)
 refine pl_val (.bool false) (y_assign rfl) ?_
 refine c_nil ?_
 refine c_seq ?_
 refine c_seq (c_region ?_)
 refine pl_val (.slice pa0 pn0 pc0) (y_move rfl) ?_
 refine pl_val (.int .i64 (r_.length : Int)) (y_len' Sl49 (rs_len h0) rfl) ?_
 refine pl_val (.slice pa1 pn1 pc1) (y_move rfl) ?_
 refine pl_val (.int .i64 (s_.length : Int)) (y_len' Sl49 (rs_len h1) rfl) ?_
 refine pl_val (.bool ((r_.length : Int) != (s_.length : Int))) (y_neq rfl rfl) ?_
 refine c_nil ?_
 rcases bif_some hs with ⟨hc3, hs⟩ | ⟨hc3, hs⟩
 ·skip
  refine c_condT (congrArg Value.bool hc3) ?_
  refine c_seq (c_region ?_)
  refine pl_val (.slice pa0 pn0 pc0) (y_move rfl) ?_
  refine pl_val (.int .i64 (r_.length : Int)) (y_len' Sl49 (rs_len h0) rfl) ?_
  refine pl_val (.slice pa1 pn1 pc1) (y_move rfl) ?_
  refine pl_val (.int .i64 (s_.length : Int)) (y_len' Sl49 (rs_len h1) rfl) ?_
  refine pl_val (.bool (decide ((r_.length : Int) < (s_.length : Int)))) (y_lss rfl rfl) ?_
  refine pl_val (.bool (decide ((r_.length : Int) < (s_.length : Int)))) (y_assign rfl) ?_
  refine c_nil ?_
  refine wp_ret ?_
  cases hs
  exact ⟨_, fr_ovl 41 ⟨rfl, trivial⟩, hC⟩
 ·skip
  refine c_condF (congrArg Value.bool hc3) ?_
  refine wp_skip ?_
  refine c_seq ?_
  refine c_seq (c_region ?_)
  refine pl_val (.int .i64 0) (y_assign rfl) ?_
  refine c_nil ?_
  obtain ⟨o42, hl43, hs⟩ := bind_some hs
  refine wp_block ?_
  refine wp_forC (id := 0) (r_.length : Int) (I := fun k40 s38 a w39 => ∃ (σ : Nat → Value), a = fr 41 (ovl σ [(0, (.slice pa0 pn0 pc0)), (1, (.slice pa1 pn1 pc1)), (5, (.int .i64 k40))]) ∧ Chg [] w w39 ∧ Own (Nw w []) M w39 ([]) ∧ (RT.rs (RT.rs (RT.int .i64))).val M w39 (.slice pa0 pn0 pc0) r_ ([]) ∧ (RT.rs (RT.rs (RT.int .i64))).val M w39 (.slice pa1 pn1 pc1) s_ ([])) (J := fun s38 a w39 => ∃ (σ : Nat → Value), a = fr 41 (ovl σ []) ∧ Chg [] w w39 ∧ Own (Nw w []) M w39 ([]) ∧ (RT.rs (RT.rs (RT.int .i64))).val M w39 (.slice pa0 pn0 pc0) r_ ([]) ∧ (RT.rs (RT.rs (RT.int .i64))).val M w39 (.slice pa1 pn1 pc1) s_ ([])) (K := (k_spec_l18Before M w)) ?_ ?_ 0 () o42 _ _ ?_ hl43 ?_
  ·rintro k40 s38 a w39 ⟨σ, rfl, hC, hO, h0, h1⟩ hlt
   refine c_seq ?_
   refine c_seq (c_region ?_)
   refine pl_val (.int .i64 k40) (y_move rfl) ?_
   refine pl_val (.slice pa0 pn0 pc0) (y_move rfl) ?_
   refine pl_val (.int .i64 (r_.length : Int)) (y_len' Sl49 (rs_len h0) rfl) ?_
   refine pl_val (.bool (decide (k40 < (r_.length : Int)))) (y_lss rfl rfl) ?_
   refine c_nil ?_
   refine c_condF (congrArg Value.bool (decide_eq_false hlt)) ?_
   refine wp_exit ?_
   exact ⟨rfl, _, fr_ovl 41 trivial, hC, hO, h0, h1⟩
  ·rintro k40 s38 o42 a w39 ⟨σ, rfl, hC, hO, h0, h1⟩ hlt hw hs
   refine c_seq ?_
   refine c_seq (c_region ?_)
   refine pl_val (.int .i64 k40) (y_move rfl) ?_
   refine pl_val (.slice pa0 pn0 pc0) (y_move rfl) ?_
   refine pl_val (.int .i64 (r_.length : Int)) (y_len' Sl49 (rs_len h0) rfl) ?_
   refine pl_val (.bool (decide (k40 < (r_.length : Int)))) (y_lss rfl rfl) ?_
   refine c_nil ?_
   refine c_condT (congrArg Value.bool (decide_eq_true hlt)) ?_
   refine wp_skip ?_
   refine c_seq ?_
   refine wp_block ?_
   refine c_seq ?_
   refine x_start [] Mx rfl ?_
   have hCw55 := Chg.drew w39
   generalize World.drew w39 = w55 at hCw55 ⊢
   have h0 := h0.ext hCw55
   have h1 := h1.ext hCw55
   have hC := hC.ext hCw55
   have hO := hO.ext hCw55
   have hS := Chg.refl [] w55
   refine x_p 0 (.slice pa0 pn0 pc0) rfl (by kernel_rfl)  (fun _ => y_move rfl) (fun _ => hS) ?_
   refine x_p 1 (.int .i64 k40) rfl (by kernel_rfl)  (fun _ => y_move rfl) (fun _ => hS) ?_
   obtain ⟨x56, hx56, hs⟩ := bind_some hs
   obtain ⟨b57, o57, hp57, ha57⟩ := rs_idx Sl49 Sz25 h0 hx56
   refine x_p 2 (.pointer (some ⟨b57, o57, none⟩)) rfl (by kernel_rfl)  (fun _ => hp57 _ _ _ _ _ _ _ _ _ rfl rfl) (fun _ => hS) ?_
   obtain ⟨v58, hl58, hv58⟩ := at_load Ag25 Sz25 (fun _ => rfl) ha57
   obtain ⟨a58, n58, c58, rfl⟩ := rs_sl hv58
   refine x_l 3 (.slice a58 n58 c58) rfl (by kernel_rfl)  (fun w' hw' => y_load rfl (hl58 w' hw')) hS ?_
   refine x_p 4 (.slice pa1 pn1 pc1) rfl (by kernel_rfl)  (fun _ => y_move rfl) (fun _ => hS) ?_
   refine x_p 5 (.int .i64 k40) rfl (by kernel_rfl)  (fun _ => y_move rfl) (fun _ => hS) ?_
   obtain ⟨x60, hx60, hs⟩ := bind_some hs
   obtain ⟨b61, o61, hp61, ha61⟩ := rs_idx Sl49 Sz25 h1 hx60
   refine x_p 6 (.pointer (some ⟨b61, o61, none⟩)) rfl (by kernel_rfl)  (fun _ => hp61 _ _ _ _ _ _ _ _ _ rfl rfl) (fun _ => hS) ?_
   obtain ⟨v62, hl62, hv62⟩ := at_load Ag25 Sz25 (fun _ => rfl) ha61
   obtain ⟨a62, n62, c62, rfl⟩ := rs_sl hv62
   refine x_l 7 (.slice a62 n62 c62) rfl (by kernel_rfl)  (fun w' hw' => y_load rfl (hl62 w' hw')) hS ?_
   refine x_one (i := 8) (by kernel_rfl) ?_
   obtain ⟨r66, hr66, hs⟩ := bind_some hs
   refine xk_call (b := false) rfl  Bd89 rfl (c_spec_l1Same (M := M) x56 x60 hv58 hv62 hO.fut hr66) rfl (by rintro _ _ _ ⟨rfl, hC65⟩; exact hS.ext hC65) ?_
   rintro _ w65 ⟨rfl, hC65⟩
   have h0 := h0.ext hC65
   have h1 := h1.ext hC65
   have hv58 := hv58.ext hC65
   have hv62 := hv62.ext hC65
   have hC := hC.ext hC65
   have hO := hO.ext hC65
   have hS := hS.ext hC65
   refine x_p 9 (.bool (!r66)) rfl (by kernel_rfl)  (fun _ => y_not rfl) (fun _ => hS) ?_
   refine x_end (by kernel_rfl) ?_
   clear hS
   rcases bif_some hs with ⟨hc67, hs⟩ | ⟨hc67, hs⟩
   ·skip
    refine c_condT (congrArg Value.bool hc67) ?_
    refine c_seq ?_
    refine x_start [] Mx rfl ?_
    have hCw68 := Chg.drew w65
    generalize World.drew w65 = w68 at hCw68 ⊢
    have h0 := h0.ext hCw68
    have h1 := h1.ext hCw68
    have hv58 := hv58.ext hCw68
    have hv62 := hv62.ext hCw68
    have hC := hC.ext hCw68
    have hO := hO.ext hCw68
    have hS := Chg.refl [] w68
    refine x_p 0 (.slice pa0 pn0 pc0) rfl (by kernel_rfl)  (fun _ => y_move rfl) (fun _ => hS) ?_
    refine x_p 1 (.int .i64 k40) rfl (by kernel_rfl)  (fun _ => y_move rfl) (fun _ => hS) ?_
    obtain ⟨x69, hx69, hs⟩ := bind_some hs
    obtain ⟨b70, o70, hp70, ha70⟩ := rs_idx Sl49 Sz25 h0 hx69
    refine x_p 2 (.pointer (some ⟨b70, o70, none⟩)) rfl (by kernel_rfl)  (fun _ => hp70 _ _ _ _ _ _ _ _ _ rfl rfl) (fun _ => hS) ?_
    obtain ⟨v71, hl71, hv71⟩ := at_load Ag25 Sz25 (fun _ => rfl) ha70
    obtain ⟨a71, n71, c71, rfl⟩ := rs_sl hv71
    refine x_l 3 (.slice a71 n71 c71) rfl (by kernel_rfl)  (fun w' hw' => y_load rfl (hl71 w' hw')) hS ?_
    refine x_p 4 (.slice pa1 pn1 pc1) rfl (by kernel_rfl)  (fun _ => y_move rfl) (fun _ => hS) ?_
    refine x_p 5 (.int .i64 k40) rfl (by kernel_rfl)  (fun _ => y_move rfl) (fun _ => hS) ?_
    obtain ⟨x73, hx73, hs⟩ := bind_some hs
    obtain ⟨b74, o74, hp74, ha74⟩ := rs_idx Sl49 Sz25 h1 hx73
    refine x_p 6 (.pointer (some ⟨b74, o74, none⟩)) rfl (by kernel_rfl)  (fun _ => hp74 _ _ _ _ _ _ _ _ _ rfl rfl) (fun _ => hS) ?_
    obtain ⟨v75, hl75, hv75⟩ := at_load Ag25 Sz25 (fun _ => rfl) ha74
    obtain ⟨a75, n75, c75, rfl⟩ := rs_sl hv75
    refine x_l 7 (.slice a75 n75 c75) rfl (by kernel_rfl)  (fun w' hw' => y_load rfl (hl75 w' hw')) hS ?_
    refine x_one (i := 8) (by kernel_rfl) ?_
    obtain ⟨r78, hr78, hs⟩ := bind_some hs
    refine xk_call (b := false) rfl  Bd88 rfl (c_spec_l3Less (M := M) x69 x73 hv71 hv75 hO.fut hr78) rfl (by rintro _ _ _ ⟨rfl, hC77⟩; exact hS.ext hC77) ?_
    rintro _ w77 ⟨rfl, hC77⟩
    have h0 := h0.ext hC77
    have h1 := h1.ext hC77
    have hv58 := hv58.ext hC77
    have hv62 := hv62.ext hC77
    have hv71 := hv71.ext hC77
    have hv75 := hv75.ext hC77
    have hC := hC.ext hC77
    have hO := hO.ext hC77
    have hS := hS.ext hC77
    refine x_p 9 (.bool r78) rfl (by kernel_rfl)  (fun _ => y_assign rfl) (fun _ => hS) ?_
    refine x_end (by kernel_rfl) ?_
    clear hS
    refine wp_ret ?_
    cases hs
    exact ⟨_, fr_ovl 41 ⟨rfl, trivial⟩, hC⟩
   ·skip
    refine c_condF (congrArg Value.bool hc67) ?_
    refine wp_skip ?_
    refine c_region ?_
    refine pl_val (.int .i64 k40) (y_move rfl) ?_
    refine pl_val (.int .i64 (w64 (k40 + 1))) (y_add rfl rfl) ?_
    refine pl_val (.int .i64 (w64 (k40 + 1))) (y_assign rfl) ?_
    refine c_nil ?_
    cases hs
    exact ⟨_, fr_ovl 41 ⟨rfl, rfl, congrArg (Value.int .i64) hw, trivial⟩, hC, hO, h0, h1⟩
  ·skip
   exact ⟨_, fr_ovl 41 ⟨rfl, rfl, rfl, trivial⟩, hC, hO, h0, h1⟩
  ·cases o42 with
   | nx _ => exact True.intro
   | rt r_ =>
    have hs := after_rt hs
    intro a1 w1 hK
    cases hs
    exact hK
   | br s38 =>
    have hs := after_br hs
    rintro a1 w39 ⟨σ, rfl, hC, hO, h0, h1⟩
    refine c_seq (c_region ?_)
    refine pl_val (.bool false) (y_assign rfl) ?_
    refine c_nil ?_
    refine wp_ret ?_
    cases hs
    exact ⟨_, fr_ovl 41 ⟨rfl, trivial⟩, hC⟩

def k_spec_l8Same (M : Nat → Prop) (w0 : World) (r : Bool) (a : Act) (w : World) : Prop :=
  ∃ (σ : Nat → Value) , a = fr 33 (ovl σ [(4, (.bool r))]) ∧ Chg [] w0 w
def s_spec_l8Same (r_ : List (List Int)) (s_ : List (List Int)) : Option (Bool) :=
  (iter (S := Int) (R := Bool) (fun s20 =>
  (bif ((decide (s20 < (r_.length : Int))) && (decide (s20 < (s_.length : Int)))) then (idx r_ s20).bind fun x32 =>
  (idx s_ s20).bind fun x36 =>
  (s_spec_l1Same x32 x36).bind fun r41 =>
  (bif (!r41) then some (.rt false) else some (.nx (w64 (s20 + 1)))) else some (.br s20))) FU 0).bind fun o24 => after o24 (fun r_ => some r_) (fun s20 =>
  some ((r_.length : Int) == (s_.length : Int)))
set_option maxHeartbeats 4000000 in
theorem c_spec_l8Same {M : Nat → Prop} {w : World} {pa0 : Option Addr} {pn0 pc0 : Nat} {pa1 : Option Addr} {pn1 pc1 : Nat} (r_ : List (List Int)) (s_ : List (List Int)) (h0 : (RT.rs (RT.rs (RT.int .i64))).val M w (.slice pa0 pn0 pc0) r_ ([])) (h1 : (RT.rs (RT.rs (RT.int .i64))).val M w (.slice pa1 pn1 pc1) s_ ([])) (hM : ∀ g, w.heap.size ≤ g → M g) {r : Bool} (hs : s_spec_l8Same r_ s_ = some r) :
    Gives Try.prog 91 [(.slice pa0 pn0 pc0), (.slice pa1 pn1 pc1)] w (fun v w' => v = (.bool r) ∧ Chg [] w w') := by
 refine calls_fr Try.func91 rfl Try.ntmps91 (Nat.le_of_ble_eq_true rfl) ?_
 have hO := Own.start (N := Nw w []) hM Nw.fut
 have hC := Chg.refl [] w
 unfold s_spec_l8Same at hs
 refine wp_mono (Q := KPost (k_spec_l8Same M w r)) ?_ (fun e a w1 h => ?_)
 rotate_left
 ·cases e
  case ret =>
   obtain ⟨σ, rfl, hrest⟩ := h
   exact ret1x Try.results91 (res_tmp rfl) ⟨rfl, hrest⟩
  all_goals exact (h : False).elim
 refine c_seq (c_region ?_)
 refine pl_val (.bool false) (y_assign rfl) ?_
 refine c_nil ?_
 refine c_seq ?_
 refine c_seq (c_region ?_)
 refine pl_val (.int .i64 0) (y_assign rfl) ?_
 refine c_nil ?_
 obtain ⟨o24, hl25, hs⟩ := bind_some hs
 refine wp_block ?_
 refine wp_iter (id := 0) (I := fun s20 a w21 => ∃ (σ : Nat → Value), a = fr 33 (ovl σ [(0, (.slice pa0 pn0 pc0)), (1, (.slice pa1 pn1 pc1)), (5, (.int .i64 s20))]) ∧ Chg [] w w21 ∧ Own (Nw w []) M w21 ([]) ∧ (RT.rs (RT.rs (RT.int .i64))).val M w21 (.slice pa0 pn0 pc0) r_ ([]) ∧ (RT.rs (RT.rs (RT.int .i64))).val M w21 (.slice pa1 pn1 pc1) s_ ([])) (J := fun s20 a w21 => ∃ (σ : Nat → Value), a = fr 33 (ovl σ [(0, (.slice pa0 pn0 pc0)), (1, (.slice pa1 pn1 pc1))]) ∧ Chg [] w w21 ∧ Own (Nw w []) M w21 ([]) ∧ (RT.rs (RT.rs (RT.int .i64))).val M w21 (.slice pa0 pn0 pc0) r_ ([]) ∧ (RT.rs (RT.rs (RT.int .i64))).val M w21 (.slice pa1 pn1 pc1) s_ ([])) (K := (k_spec_l8Same M w)) ?_ FU 0 o24 _ _ ?_ hl25 ?_
 ·rintro s20 o24 a w21 ⟨σ, rfl, hC, hO, h0, h1⟩ hs
  refine c_seq ?_
  refine c_seq ?_
  refine c_mid (I := fun a w27 => ∃ (σ : Nat → Value), a = fr 33 (ovl σ [(0, (.slice pa0 pn0 pc0)), (1, (.slice pa1 pn1 pc1)), (5, (.int .i64 s20)), (15, (.bool ((decide (s20 < (r_.length : Int))) && (decide (s20 < (s_.length : Int))))))]) ∧ Chg [] w21 w27) ?_ ?_
  ·have hMid := Chg.refl [] w21
   refine c_region ?_
   refine pl_val (.int .i64 s20) (y_move rfl) ?_
   refine pl_val (.slice pa0 pn0 pc0) (y_move rfl) ?_
   refine pl_val (.int .i64 (r_.length : Int)) (y_len' Sl49 (rs_len h0) rfl) ?_
   refine pl_val (.bool (decide (s20 < (r_.length : Int)))) (y_lss rfl rfl) ?_
   refine pl_val (.bool (decide (s20 < (r_.length : Int)))) (y_move rfl) ?_
   rcases Bool.eq_false_or_eq_true ((decide (s20 < (r_.length : Int)))) with hc29 | hc29
   ·skip
    refine pl_yes (.int .i64 s20) (tg := 10) (by kernel_rfl) (congrArg Value.bool hc29) (y_move rfl) ?_
    refine pl_yes (.slice pa1 pn1 pc1) (tg := 10) (by kernel_rfl) (congrArg Value.bool hc29) (y_move rfl) ?_
    refine pl_yes (.int .i64 (s_.length : Int)) (tg := 10) (by kernel_rfl) (congrArg Value.bool hc29) (y_len' Sl49 (rs_len h1) rfl) ?_
    refine pl_yes (.bool (decide (s20 < (s_.length : Int)))) (tg := 10) (by kernel_rfl) (congrArg Value.bool hc29) (y_lss rfl rfl) ?_
    refine pl_val (.bool ((decide (s20 < (r_.length : Int))) && (decide (s20 < (s_.length : Int))))) (y_pick_t (congrArg Value.bool hc29) (congrArg Value.bool (by rw [hc29]; rfl))) ?_
    refine c_nil ?_
    exact ⟨_, fr_ovl 33 ⟨rfl, rfl, rfl, rfl, trivial⟩, hMid⟩
   ·skip
    refine pl_not (tg := 10) (by kernel_rfl) (congrArg Value.bool hc29) ?_
    refine pl_not (tg := 10) (by kernel_rfl) (congrArg Value.bool hc29) ?_
    refine pl_not (tg := 10) (by kernel_rfl) (congrArg Value.bool hc29) ?_
    refine pl_not (tg := 10) (by kernel_rfl) (congrArg Value.bool hc29) ?_
    refine pl_val (.bool ((decide (s20 < (r_.length : Int))) && (decide (s20 < (s_.length : Int))))) (y_pick_f (congrArg Value.bool hc29) (congrArg Value.bool (by rw [hc29]; rfl))) ?_
    refine c_nil ?_
    exact ⟨_, fr_ovl 33 ⟨rfl, rfl, rfl, rfl, trivial⟩, hMid⟩
  ·rintro a1 w27 ⟨σ, rfl, hCs26⟩
   have h0 := h0.ext hCs26
   have h1 := h1.ext hCs26
   have hC := hC.ext hCs26
   have hO := hO.ext hCs26
   rcases bif_some hs with ⟨hc30, hs⟩ | ⟨hc30, hs⟩
   ·skip
    refine c_condT (congrArg Value.bool hc30) ?_
    refine wp_skip ?_
    refine c_seq ?_
    refine wp_block ?_
    refine c_seq ?_
    refine x_start [] Mx rfl ?_
    have hCw31 := Chg.drew w27
    generalize World.drew w27 = w31 at hCw31 ⊢
    have h0 := h0.ext hCw31
    have h1 := h1.ext hCw31
    have hC := hC.ext hCw31
    have hO := hO.ext hCw31
    have hS := Chg.refl [] w31
    refine x_p 0 (.slice pa0 pn0 pc0) rfl (by kernel_rfl)  (fun _ => y_move rfl) (fun _ => hS) ?_
    refine x_p 1 (.int .i64 s20) rfl (by kernel_rfl)  (fun _ => y_move rfl) (fun _ => hS) ?_
    obtain ⟨x32, hx32, hs⟩ := bind_some hs
    obtain ⟨b33, o33, hp33, ha33⟩ := rs_idx Sl49 Sz25 h0 hx32
    refine x_p 2 (.pointer (some ⟨b33, o33, none⟩)) rfl (by kernel_rfl)  (fun _ => hp33 _ _ _ _ _ _ _ _ _ rfl rfl) (fun _ => hS) ?_
    obtain ⟨v34, hl34, hv34⟩ := at_load Ag25 Sz25 (fun _ => rfl) ha33
    obtain ⟨a34, n34, c34, rfl⟩ := rs_sl hv34
    refine x_l 3 (.slice a34 n34 c34) rfl (by kernel_rfl)  (fun w' hw' => y_load rfl (hl34 w' hw')) hS ?_
    refine x_p 4 (.slice pa1 pn1 pc1) rfl (by kernel_rfl)  (fun _ => y_move rfl) (fun _ => hS) ?_
    refine x_p 5 (.int .i64 s20) rfl (by kernel_rfl)  (fun _ => y_move rfl) (fun _ => hS) ?_
    obtain ⟨x36, hx36, hs⟩ := bind_some hs
    obtain ⟨b37, o37, hp37, ha37⟩ := rs_idx Sl49 Sz25 h1 hx36
    refine x_p 6 (.pointer (some ⟨b37, o37, none⟩)) rfl (by kernel_rfl)  (fun _ => hp37 _ _ _ _ _ _ _ _ _ rfl rfl) (fun _ => hS) ?_
    obtain ⟨v38, hl38, hv38⟩ := at_load Ag25 Sz25 (fun _ => rfl) ha37
    obtain ⟨a38, n38, c38, rfl⟩ := rs_sl hv38
    refine x_l 7 (.slice a38 n38 c38) rfl (by kernel_rfl)  (fun w' hw' => y_load rfl (hl38 w' hw')) hS ?_
    refine x_one (i := 8) (by kernel_rfl) ?_
    obtain ⟨r41, hr41, hs⟩ := bind_some hs
    refine xk_call (b := false) rfl  Bd89 rfl (c_spec_l1Same (M := M) x32 x36 hv34 hv38 hO.fut hr41) rfl (by rintro _ _ _ ⟨rfl, hC40⟩; exact hS.ext hC40) ?_
    rintro _ w40 ⟨rfl, hC40⟩
    have h0 := h0.ext hC40
    have h1 := h1.ext hC40
    have hv34 := hv34.ext hC40
    have hv38 := hv38.ext hC40
    have hC := hC.ext hC40
    have hO := hO.ext hC40
    have hS := hS.ext hC40
    refine x_p 9 (.bool (!r41)) rfl (by kernel_rfl)  (fun _ => y_not rfl) (fun _ => hS) ?_
    refine x_end (by kernel_rfl) ?_
    clear hS
    rcases bif_some hs with ⟨hc42, hs⟩ | ⟨hc42, hs⟩
    ·skip
     refine c_condT (congrArg Value.bool hc42) ?_
     refine c_seq (c_region ?_)
     refine pl_val (.bool false) (y_assign rfl) ?_
     refine c_nil ?_
     refine wp_ret ?_
     cases hs
     exact ⟨_, fr_ovl 33 ⟨rfl, trivial⟩, hC⟩
    ·skip
     refine c_condF (congrArg Value.bool hc42) ?_
     refine wp_skip ?_
     refine c_region ?_
     refine pl_val (.int .i64 s20) (y_move rfl) ?_
     refine pl_val (.int .i64 (w64 (s20 + 1))) (y_add rfl rfl) ?_
     refine pl_val (.int .i64 (w64 (s20 + 1))) (y_assign rfl) ?_
     refine c_nil ?_
     cases hs
     exact ⟨_, fr_ovl 33 ⟨rfl, rfl, rfl, trivial⟩, hC, hO, h0, h1⟩
   ·skip
    refine c_condF (congrArg Value.bool hc30) ?_
    refine wp_exit ?_
    cases hs
    exact ⟨rfl, _, fr_ovl 33 ⟨rfl, rfl, trivial⟩, hC, hO, h0, h1⟩
 ·skip
  exact ⟨_, fr_ovl 33 ⟨rfl, rfl, rfl, trivial⟩, hC, hO, h0, h1⟩
 ·cases o24 with
  | nx _ => exact True.intro
  | rt r_ =>
   have hs := after_rt hs
   intro a1 w1 hK
   cases hs
   exact hK
  | br s20 =>
   have hs := after_br hs
   rintro a1 w21 ⟨σ, rfl, hC, hO, h0, h1⟩
   refine c_seq (c_region ?_)
   refine pl_val (.slice pa0 pn0 pc0) (y_move rfl) ?_
   refine pl_val (.int .i64 (r_.length : Int)) (y_len' Sl49 (rs_len h0) rfl) ?_
   refine pl_val (.slice pa1 pn1 pc1) (y_move rfl) ?_
   refine pl_val (.int .i64 (s_.length : Int)) (y_len' Sl49 (rs_len h1) rfl) ?_
   refine pl_val (.bool ((r_.length : Int) == (s_.length : Int))) (y_eql rfl rfl) ?_
   refine pl_val (.bool ((r_.length : Int) == (s_.length : Int))) (y_assign rfl) ?_
   refine c_nil ?_
   refine wp_ret ?_
   cases hs
   exact ⟨_, fr_ovl 33 ⟨rfl, trivial⟩, hC⟩

theorem Sl59 : SlT Try.prog 59 49 := Try.underlying59

theorem Sz49 : SzT Try.prog 49 1 := ⟨_, rfl, rfl⟩

theorem Ag49 : AggT Try.prog 49 false := fun _ => by kernel_rfl

theorem Bd90 : Bodied Try.prog 90 := bodied Try.func90 (by kernel_rfl) rfl

theorem Bd91 : Bodied Try.prog 91 := bodied Try.func91 (by kernel_rfl) rfl

theorem Rw59 : RowT Try.prog 59 49 1 [(.slice none 0 0)] := ⟨Try.underlying59, ⟨_, _, rfl, rfl, rfl, rfl, by decide⟩, rfl, by decide⟩

def k_spec_l18Put (M : Nat → Prop) (w0 : World) (r : (List (List (List Int)))) (a : Act) (w : World) : Prop :=
  ∃ (σ : Nat → Value) (ra0 : Option Addr) (rn0 rc0 : Nat), a = fr 45 (ovl σ [(4, (.slice ra0 rn0 rc0))]) ∧ Chg [] w0 w ∧ (RT.rs (RT.rs (RT.rs (RT.int .i64)))).val (Past M w0 w) w (.slice ra0 rn0 rc0) r []
def s_spec_l18Put (list : List (List (List Int))) (r_ : List (List Int)) : Option ((List (List (List Int)))) :=
  (iter (S := Int) (R := (List (List (List Int)))) (fun s11 =>
  (bif (decide (s11 < (list.length : Int))) then (idx list s11).bind fun x18 =>
  (s_spec_l18Before x18 r_).bind fun r23 =>
  (bif r23 then some (.nx (w64 (s11 + 1))) else some (.br s11)) else some (.br s11))) FU 0).bind fun o15 => after o15 (fun r_ => some r_) (fun s11 =>
  ((bif (decide (s11 < (list.length : Int))) then (idx list s11).bind fun x29 =>
  (s_spec_l8Same x29 r_).bind fun r34 =>
  some r34 else some false)).bind fun s25 =>
  (bif s25 then some list else (slc list 0 s11).bind fun y38 =>
  (slc list s11 (list.length : Int)).bind fun y41 =>
  (app ([]) y38).bind fun y47 =>
  (app y47 ([r_])).bind fun y52 =>
  (app y52 y41).bind fun y55 =>
  some y55))
set_option maxHeartbeats 4000000 in
theorem c_spec_l18Put {M : Nat → Prop} {w : World} {pa0 : Option Addr} {pn0 pc0 : Nat} {pa1 : Option Addr} {pn1 pc1 : Nat} (list : List (List (List Int))) (r_ : List (List Int)) (h0 : (RT.rs (RT.rs (RT.rs (RT.int .i64)))).val M w (.slice pa0 pn0 pc0) list ([])) (h1 : (RT.rs (RT.rs (RT.int .i64))).val M w (.slice pa1 pn1 pc1) r_ ([])) (hM : ∀ g, w.heap.size ≤ g → M g) {r : (List (List (List Int)))} (hs : s_spec_l18Put list r_ = some r) :
    Gives Try.prog 72 [(.slice pa0 pn0 pc0), (.slice pa1 pn1 pc1)] w (fun v w' => ∃ (ra0 : Option Addr) (rn0 rc0 : Nat), v = (.slice ra0 rn0 rc0) ∧ Chg [] w w' ∧ (RT.rs (RT.rs (RT.rs (RT.int .i64)))).val (Past M w w') w' (.slice ra0 rn0 rc0) r []) := by
 refine calls_fr Try.func72 rfl Try.ntmps72 (Nat.le_of_ble_eq_true rfl) ?_
 have hO := Own.start (N := Nw w []) hM Nw.fut
 have hC := Chg.refl [] w
 unfold s_spec_l18Put at hs
 refine wp_mono (Q := KPost (k_spec_l18Put M w r)) ?_ (fun e a w1 h => ?_)
 rotate_left
 ·cases e
  case ret =>
   obtain ⟨σ, ra0, rn0, rc0, rfl, hrest⟩ := h
   exact ret1x Try.results72 (res_tmp rfl) ⟨ra0, rn0, rc0, rfl, hrest⟩
  all_goals exact (h : False).elim
 refine c_seq (c_region ?_)
 refine pl_val (.slice none 0 0) (y_assign rfl) ?_
 refine c_nil ?_
 refine c_seq (c_region ?_)
 refine pl_val (.int .i64 0) (y_assign rfl) ?_
 refine c_nil ?_
 refine c_seq ?_
 obtain ⟨o15, hl16, hs⟩ := bind_some hs
 refine wp_block ?_
 refine wp_iter (id := 0) (I := fun s11 a w12 => ∃ (σ : Nat → Value), a = fr 45 (ovl σ [(0, (.slice pa0 pn0 pc0)), (1, (.slice pa1 pn1 pc1)), (5, (.int .i64 s11))]) ∧ Chg [] w w12 ∧ Own (Nw w []) M w12 ([]) ∧ (RT.rs (RT.rs (RT.rs (RT.int .i64)))).val M w12 (.slice pa0 pn0 pc0) list ([]) ∧ (RT.rs (RT.rs (RT.int .i64))).val M w12 (.slice pa1 pn1 pc1) r_ ([])) (J := fun s11 a w12 => ∃ (σ : Nat → Value), a = fr 45 (ovl σ [(0, (.slice pa0 pn0 pc0)), (1, (.slice pa1 pn1 pc1)), (5, (.int .i64 s11))]) ∧ Chg [] w w12 ∧ Own (Nw w []) M w12 ([]) ∧ (RT.rs (RT.rs (RT.rs (RT.int .i64)))).val M w12 (.slice pa0 pn0 pc0) list ([]) ∧ (RT.rs (RT.rs (RT.int .i64))).val M w12 (.slice pa1 pn1 pc1) r_ ([])) (K := (k_spec_l18Put M w)) ?_ FU 0 o15 _ _ ?_ hl16 ?_
 ·rintro s11 o15 a w12 ⟨σ, rfl, hC, hO, h0, h1⟩ hs
  refine c_seq ?_
  refine c_seq (c_region ?_)
  refine pl_val (.int .i64 s11) (y_move rfl) ?_
  refine pl_val (.slice pa0 pn0 pc0) (y_move rfl) ?_
  refine pl_val (.int .i64 (list.length : Int)) (y_len' Sl59 (rs_len h0) rfl) ?_
  refine pl_val (.bool (decide (s11 < (list.length : Int)))) (y_lss rfl rfl) ?_
  refine pl_val (.bool (decide (s11 < (list.length : Int)))) (y_move rfl) ?_
  rcases bif_some hs with ⟨hc17, hs⟩ | ⟨hc17, hs⟩
  ·skip
   refine pl_yes (.slice pa0 pn0 pc0) (tg := 10) (by kernel_rfl) (congrArg Value.bool hc17) (y_move rfl) ?_
   refine pl_yes (.int .i64 s11) (tg := 10) (by kernel_rfl) (congrArg Value.bool hc17) (y_move rfl) ?_
   obtain ⟨x18, hx18, hs⟩ := bind_some hs
   obtain ⟨b19, o19, hp19, ha19⟩ := rs_idx Sl59 Sz49 h0 hx18
   refine pl_yes (.pointer (some ⟨b19, o19, none⟩)) (tg := 10) (by kernel_rfl) (congrArg Value.bool hc17) (hp19 _ _ _ _ _ _ _ _ _ rfl rfl) ?_
   obtain ⟨v20, hl20, hv20⟩ := at_load Ag49 Sz49 (fun _ => rfl) ha19
   obtain ⟨a20, n20, c20, rfl⟩ := rs_sl hv20
   refine pl_yes (.slice a20 n20 c20) (tg := 10) (by kernel_rfl) (congrArg Value.bool hc17) (y_load rfl (hl20 _ (Chg.refl _ _))) ?_
   refine pl_yes (.slice pa1 pn1 pc1) (tg := 10) (by kernel_rfl) (congrArg Value.bool hc17) (y_move rfl) ?_
   obtain ⟨r23, hr23, hs⟩ := bind_some hs
   refine pl_cally (tg := 10) (by kernel_rfl) (congrArg Value.bool hc17) Bd90 rfl (c_spec_l18Before (M := M) x18 r_ hv20 h1 hO.fut hr23) ?_
   rintro _ w22 ⟨rfl, hC22⟩
   have h0 := h0.ext hC22
   have h1 := h1.ext hC22
   have hv20 := hv20.ext hC22
   have hC := hC.ext hC22
   have hO := hO.ext hC22
   refine pl_val (.bool r23) (y_pick_t (congrArg Value.bool hc17) rfl) ?_
   refine c_nil ?_
   rcases bif_some hs with ⟨hc24, hs⟩ | ⟨hc24, hs⟩
   ·skip
    refine c_condT (congrArg Value.bool hc24) ?_
    refine wp_skip ?_
    refine wp_block ?_
    refine c_region ?_
    refine pl_val (.int .i64 s11) (y_move rfl) ?_
    refine pl_val (.int .i64 (w64 (s11 + 1))) (y_add rfl rfl) ?_
    refine pl_val (.int .i64 (w64 (s11 + 1))) (y_assign rfl) ?_
    refine c_nil ?_
    cases hs
    exact ⟨_, fr_ovl 45 ⟨rfl, rfl, rfl, trivial⟩, hC, hO, h0, h1⟩
   ·skip
    refine c_condF (congrArg Value.bool hc24) ?_
    refine wp_exit ?_
    cases hs
    exact ⟨rfl, _, fr_ovl 45 ⟨rfl, rfl, rfl, trivial⟩, hC, hO, h0, h1⟩
  ·skip
   refine pl_not (tg := 10) (by kernel_rfl) (congrArg Value.bool hc17) ?_
   refine pl_not (tg := 10) (by kernel_rfl) (congrArg Value.bool hc17) ?_
   refine pl_not (tg := 10) (by kernel_rfl) (congrArg Value.bool hc17) ?_
   refine pl_not (tg := 10) (by kernel_rfl) (congrArg Value.bool hc17) ?_
   refine pl_not (tg := 10) (by kernel_rfl) (congrArg Value.bool hc17) ?_
   refine pl_not (tg := 10) (by kernel_rfl) (congrArg Value.bool hc17) ?_
   refine pl_val (.bool false) (y_pick_f (congrArg Value.bool hc17) rfl) ?_
   refine c_nil ?_
   refine c_condF (by rfl) ?_
   refine wp_exit ?_
   cases hs
   exact ⟨rfl, _, fr_ovl 45 ⟨rfl, rfl, rfl, trivial⟩, hC, hO, h0, h1⟩
 ·skip
  exact ⟨_, fr_ovl 45 ⟨rfl, rfl, rfl, trivial⟩, hC, hO, h0, h1⟩
 ·cases o15 with
  | nx _ => exact True.intro
  | rt r_ =>
   have hs := after_rt hs
   intro a1 w1 hK
   cases hs
   exact hK
  | br s11 =>
   have hs := after_br hs
   rintro a1 w12 ⟨σ, rfl, hC, hO, h0, h1⟩
   refine c_seq ?_
   refine c_seq ?_
   obtain ⟨s25, hm27, hs⟩ := bind_some hs
   refine c_mid (I := fun a w26 => ∃ (σ : Nat → Value), a = fr 45 (ovl σ [(0, (.slice pa0 pn0 pc0)), (1, (.slice pa1 pn1 pc1)), (5, (.int .i64 s11)), (31, (.bool s25))]) ∧ Chg [] w12 w26) ?_ ?_
   ·replace hs := hm27
    have hMid := Chg.refl [] w12
    refine c_region ?_
    refine pl_val (.int .i64 s11) (y_move rfl) ?_
    refine pl_val (.slice pa0 pn0 pc0) (y_move rfl) ?_
    refine pl_val (.int .i64 (list.length : Int)) (y_len' Sl59 (rs_len h0) rfl) ?_
    refine pl_val (.bool (decide (s11 < (list.length : Int)))) (y_lss rfl rfl) ?_
    refine pl_val (.bool (decide (s11 < (list.length : Int)))) (y_move rfl) ?_
    rcases bif_some hs with ⟨hc28, hs⟩ | ⟨hc28, hs⟩
    ·skip
     refine pl_yes (.slice pa0 pn0 pc0) (tg := 24) (by kernel_rfl) (congrArg Value.bool hc28) (y_move rfl) ?_
     refine pl_yes (.int .i64 s11) (tg := 24) (by kernel_rfl) (congrArg Value.bool hc28) (y_move rfl) ?_
     obtain ⟨x29, hx29, hs⟩ := bind_some hs
     obtain ⟨b30, o30, hp30, ha30⟩ := rs_idx Sl59 Sz49 h0 hx29
     refine pl_yes (.pointer (some ⟨b30, o30, none⟩)) (tg := 24) (by kernel_rfl) (congrArg Value.bool hc28) (hp30 _ _ _ _ _ _ _ _ _ rfl rfl) ?_
     obtain ⟨v31, hl31, hv31⟩ := at_load Ag49 Sz49 (fun _ => rfl) ha30
     obtain ⟨a31, n31, c31, rfl⟩ := rs_sl hv31
     refine pl_yes (.slice a31 n31 c31) (tg := 24) (by kernel_rfl) (congrArg Value.bool hc28) (y_load rfl (hl31 _ (Chg.refl _ _))) ?_
     refine pl_yes (.slice pa1 pn1 pc1) (tg := 24) (by kernel_rfl) (congrArg Value.bool hc28) (y_move rfl) ?_
     obtain ⟨r34, hr34, hs⟩ := bind_some hs
     refine pl_cally (tg := 24) (by kernel_rfl) (congrArg Value.bool hc28) Bd91 rfl (c_spec_l8Same (M := M) x29 r_ hv31 h1 hO.fut hr34) ?_
     rintro _ w33 ⟨rfl, hC33⟩
     have h0 := h0.ext hC33
     have h1 := h1.ext hC33
     have hv31 := hv31.ext hC33
     have hMid := hMid.ext hC33
     have hC := hC.ext hC33
     have hO := hO.ext hC33
     refine pl_val (.bool r34) (y_pick_t (congrArg Value.bool hc28) rfl) ?_
     refine c_nil ?_
     cases hs
     exact ⟨_, fr_ovl 45 ⟨rfl, rfl, rfl, rfl, trivial⟩, hMid⟩
    ·skip
     refine pl_not (tg := 24) (by kernel_rfl) (congrArg Value.bool hc28) ?_
     refine pl_not (tg := 24) (by kernel_rfl) (congrArg Value.bool hc28) ?_
     refine pl_not (tg := 24) (by kernel_rfl) (congrArg Value.bool hc28) ?_
     refine pl_not (tg := 24) (by kernel_rfl) (congrArg Value.bool hc28) ?_
     refine pl_not (tg := 24) (by kernel_rfl) (congrArg Value.bool hc28) ?_
     refine pl_not (tg := 24) (by kernel_rfl) (congrArg Value.bool hc28) ?_
     refine pl_val (.bool false) (y_pick_f (congrArg Value.bool hc28) rfl) ?_
     refine c_nil ?_
     cases hs
     exact ⟨_, fr_ovl 45 ⟨rfl, rfl, rfl, rfl, trivial⟩, hMid⟩
   ·rintro a1 w26 ⟨σ, rfl, hCs25⟩
    have h0 := h0.ext hCs25
    have h1 := h1.ext hCs25
    have hC := hC.ext hCs25
    have hO := hO.ext hCs25
    rcases bif_some hs with ⟨hc35, hs⟩ | ⟨hc35, hs⟩
    ·skip
     refine c_condT (congrArg Value.bool hc35) ?_
     refine c_seq (c_region ?_)
     refine pl_val (.slice pa0 pn0 pc0) (y_move rfl) ?_
     refine pl_val (.slice pa0 pn0 pc0) (y_assign rfl) ?_
     refine c_nil ?_
     refine wp_ret ?_
     cases hs
     exact ⟨_, pa0, pn0, pc0, fr_ovl 45 ⟨rfl, trivial⟩, hC, (Keeps.out Keeps.refl h0)⟩
    ·skip
     refine c_condF (congrArg Value.bool hc35) ?_
     refine wp_skip ?_
     refine c_seq ?_
     refine x_start [4, 7, 11] Mx rfl ?_
     have hCw36 := Chg.drew w26
     generalize World.drew w26 = w36 at hCw36 ⊢
     have h0 := h0.ext hCw36
     have h1 := h1.ext hCw36
     have hC := hC.ext hCw36
     have hO := hO.ext hCw36
     have hS := Chg.refl [] w36
     refine x_p 1 (.slice pa0 pn0 pc0) rfl (by kernel_rfl)  (fun _ => y_move rfl) (fun _ => hS) ?_
     refine x_p 2 (.int .i64 s11) rfl (by kernel_rfl)  (fun _ => y_move rfl) (fun _ => hS) ?_
     obtain ⟨y38, hy38, hs⟩ := bind_some hs
     obtain ⟨a37, n37, c37, hv37, hr37, hq37, hz37⟩ := rs_part Try.underlying59 Sz49 h0 hy38
     refine x_p 3 (.slice a37 n37 c37) rfl (by kernel_rfl)  (fun _ => y_slice rfl rfl rfl (hq37 rfl _)) (fun _ => hS) ?_
     refine x_p 5 (.slice pa1 pn1 pc1) rfl (by kernel_rfl)  (fun _ => y_move rfl) (fun _ => hS) ?_
     refine x_p 8 (.slice pa0 pn0 pc0) rfl (by kernel_rfl)  (fun _ => y_move rfl) (fun _ => hS) ?_
     refine x_p 9 (.int .i64 s11) rfl (by kernel_rfl)  (fun _ => y_move rfl) (fun _ => hS) ?_
     obtain ⟨y41, hy41, hs⟩ := bind_some hs
     obtain ⟨a40, n40, c40, hv40, hr40, hq40, hz40⟩ := rs_part Try.underlying59 Sz49 h0 hy41
     refine x_p 10 (.slice a40 n40 c40) rfl (by kernel_rfl)  (fun _ => y_slice rfl rfl rfl (hz40 rfl _)) (fun _ => hS) ?_
     refine x_two (i := 0) (j := 6) (by kernel_rfl) ?_ ?_
     ·skip
      obtain ⟨w43, g43, ew43, eg43, hC43, hb43⟩ := new_block w36 [] 49
      refine xk_val (w' := w43) (b := false) (.slice (some ⟨g43, 0, none⟩) 0 0) rfl  (y_bslice rfl (by rw [ew43, eg43]; kernel_rfl)) rfl (fun _ => hS.ext hC43) ?_
      have h0 := h0.ext hC43
      have h1 := h1.ext hC43
      have hv37 := hv37.ext hC43
      have hv40 := hv40.ext hC43
      have hC := hC.ext hC43
      have hO := hO.new1 hC43 eg43 hb43.lt
      have hv43 := os_of_box (r := (RT.os 25 (RT.os 3 (RT.int .i64)))) (M := M) (css := []) (fps := []) (xs := ([] : List (List (List Int)))) hb43 trivial (Nat.zero_le _) (List.nodup_cons.2 ⟨(fun h => nomatch h), List.nodup_nil⟩)
      have hv43 : (RT.os 49 (RT.os 25 (RT.os 3 (RT.int .i64)))).val M w43 (.slice (some ⟨g43, 0, none⟩) 0 0) [] [g43] := hv43
      have hS := hS.ext hC43
      refine x_two (i := 4) (j := 6) (by kernel_rfl) ?_ ?_
      ·skip
       obtain ⟨M46, f46, hs46, hk46, hO, hv46⟩ := os_inner (Frz.os (Frz.os Frz.int)) hv43 hO
       have h0 := h0.sub (M' := M46) hs46
       have h1 := h1.sub (M' := M46) hs46
       have hv37 := hv37.sub (M' := M46) hs46
       have hv40 := hv40.sub (M' := M46) hs46
       have hK := hk46
       obtain ⟨y47, hy47, hs⟩ := bind_some hs
       obtain ⟨a45, n45, c45, w45, f45, hr45, hC45, hf45, hv45⟩ := app_rs Rw59 hy47 hv46 hv37 hO.inM
       have hG45 := os_block hv46
       refine xk_val (w' := w45) (b := true) (.slice a45 n45 c45) rfl  (y_append rfl rfl (hr45 _)) rfl (fun h => nomatch h) ?_
       have h0 := h0.mut hC45 (fun g hg => hO.inM g (hG45 g hg)) (fun _ _ h => nomatch h)
       have h1 := h1.mut hC45 (fun g hg => hO.inM g (hG45 g hg)) (fun _ _ h => nomatch h)
       have hv37 := hv37.mut hC45 (fun g hg => hO.inM g (hG45 g hg)) (fun _ _ h => nomatch h)
       have hv40 := hv40.mut hC45 (fun g hg => hO.inM g (hG45 g hg)) (fun _ _ h => nomatch h)
       have hC := hC.step hC45 (fun g hg => hO.inN g (hG45 g hg))
       have hO := hO.grow hC45 hf45 (os_nodup hv45) hv45.fpl
       refine x_one (i := 6) (by kernel_rfl) ?_
       obtain ⟨w49, g49, ew49, eg49, hC49, hb49⟩ := new_block w45 [(.slice pa1 pn1 pc1)] 49
       refine xk_val (w' := w49) (b := true) (.slice (some ⟨g49, 0, none⟩) 1 1) rfl  (y_bslice rfl (by rw [ew49, eg49]; kernel_rfl)) rfl (fun h => nomatch h) ?_
       have h0 := h0.ext hC49
       have h1 := h1.ext hC49
       have hv37 := hv37.ext hC49
       have hv40 := hv40.ext hC49
       have hv45 := hv45.ext hC49
       have hC := hC.ext hC49
       have hO := hO.new1 hC49 eg49 hb49.lt
       have hv49 := os_of_box (r := (RT.rs (RT.rs (RT.int .i64)))) (M := M46) (css := [[(.slice pa1 pn1 pc1)]]) (fps := [([] : List Nat)]) (xs := ([r_] : List (List (List Int)))) hb49 ⟨(rs_unval h1), trivial⟩ (Nat.le_of_ble_eq_true rfl) (List.nodup_cons.2 ⟨(fun h => nomatch h), List.nodup_nil⟩)
       have hv49 : (RT.os 49 (RT.rs (RT.rs (RT.int .i64)))).val M46 w49 (.slice (some ⟨g49, 0, none⟩) 1 1) [r_] [g49] := hv49
       refine x_one (i := 7) (by kernel_rfl) ?_
       obtain ⟨y52, hy52, hs⟩ := bind_some hs
       have hO := hO.fr1
       obtain ⟨a51, n51, c51, w51, f51, hr51, hC51, hf51, hv51⟩ := app_os Rw59 hy52 hv45 hv49 hO.inM (fun g hg hq => hO.apart g hq (mem_l hg))
       have hG51 := os_block hv45
       refine xk_val (w' := w51) (b := true) (.slice a51 n51 c51) rfl  (y_append rfl rfl (hr51 _)) rfl (fun h => nomatch h) ?_
       have hO := hO.fr1
       have hO := hO.fr1
       have h0 := h0.mut hC51 (fun g hg => hO.inM g (hG51 g hg)) (fun _ _ h => nomatch h)
       have h1 := h1.mut hC51 (fun g hg => hO.inM g (hG51 g hg)) (fun _ _ h => nomatch h)
       have hv37 := hv37.mut hC51 (fun g hg => hO.inM g (hG51 g hg)) (fun _ _ h => nomatch h)
       have hv40 := hv40.mut hC51 (fun g hg => hO.inM g (hG51 g hg)) (fun _ _ h => nomatch h)
       have hC := hC.step hC51 (fun g hg => hO.inN g (hG51 g hg))
       have hO := hO.eat hC51 hf51 (os_nodup hv51) hv51.fpl
       refine x_one (i := 11) (by kernel_rfl) ?_
       obtain ⟨y55, hy55, hs⟩ := bind_some hs
       obtain ⟨a54, n54, c54, w54, f54, hr54, hC54, hf54, hv54⟩ := app_rs Rw59 hy55 hv51 hv40 hO.inM
       have hG54 := os_block hv51
       refine xk_val (w' := w54) (b := true) (.slice a54 n54 c54) rfl  (y_append rfl rfl (hr54 _)) rfl (fun h => nomatch h) ?_
       have h0 := h0.mut hC54 (fun g hg => hO.inM g (hG54 g hg)) (fun _ _ h => nomatch h)
       have h1 := h1.mut hC54 (fun g hg => hO.inM g (hG54 g hg)) (fun _ _ h => nomatch h)
       have hv37 := hv37.mut hC54 (fun g hg => hO.inM g (hG54 g hg)) (fun _ _ h => nomatch h)
       have hv40 := hv40.mut hC54 (fun g hg => hO.inM g (hG54 g hg)) (fun _ _ h => nomatch h)
       have hC := hC.step hC54 (fun g hg => hO.inN g (hG54 g hg))
       have hO := hO.grow hC54 hf54 (os_nodup hv54) hv54.fpl
       refine x_p 12 (.slice a54 n54 c54) rfl (by kernel_rfl)  (fun _ => y_assign rfl) (fun h => nomatch h) ?_
       refine x_end (by kernel_rfl) ?_
       clear hS
       refine wp_ret ?_
       cases hs
       obtain ⟨M57, eM57, hs57, hk57, hO, hv57⟩ := frz_own (Frz.os (Frz.rs (Frz.rs Frz.int))) hv54 hO
       have h0 := h0.sub (M' := M57) hs57
       have h1 := h1.sub (M' := M57) hs57
       have hv37 := hv37.sub (M' := M57) hs57
       have hv40 := hv40.sub (M' := M57) hs57
       have hK := hK.trans hk57
       exact ⟨_, a54, n54, c54, fr_ovl 45 ⟨rfl, trivial⟩, hC, (Keeps.out hK hv57)⟩
      ·skip
       obtain ⟨w58, g58, ew58, eg58, hC58, hb58⟩ := new_block w43 [(.slice pa1 pn1 pc1)] 49
       refine xk_val (w' := w58) (b := false) (.slice (some ⟨g58, 0, none⟩) 1 1) rfl  (y_bslice rfl (by rw [ew58, eg58]; kernel_rfl)) rfl (fun _ => hS.ext hC58) ?_
       have h0 := h0.ext hC58
       have h1 := h1.ext hC58
       have hv37 := hv37.ext hC58
       have hv40 := hv40.ext hC58
       have hv43 := hv43.ext hC58
       have hC := hC.ext hC58
       have hO := hO.new1 hC58 eg58 hb58.lt
       have hv58 := os_of_box (r := (RT.rs (RT.rs (RT.int .i64)))) (M := M) (css := [[(.slice pa1 pn1 pc1)]]) (fps := [([] : List Nat)]) (xs := ([r_] : List (List (List Int)))) hb58 ⟨(rs_unval h1), trivial⟩ (Nat.le_of_ble_eq_true rfl) (List.nodup_cons.2 ⟨(fun h => nomatch h), List.nodup_nil⟩)
       have hv58 : (RT.os 49 (RT.rs (RT.rs (RT.int .i64)))).val M w58 (.slice (some ⟨g58, 0, none⟩) 1 1) [r_] [g58] := hv58
       have hS := hS.ext hC58
       refine x_one (i := 4) (by kernel_rfl) ?_
       have hO := hO.fr1
       obtain ⟨M61, f61, hs61, hk61, hO, hv61⟩ := os_inner (Frz.os (Frz.os Frz.int)) hv43 hO
       have h0 := h0.sub (M' := M61) hs61
       have h1 := h1.sub (M' := M61) hs61
       have hv37 := hv37.sub (M' := M61) hs61
       have hv40 := hv40.sub (M' := M61) hs61
       have hv58 := hv58.sub (M' := M61) hs61
       have hK := hk61
       obtain ⟨y47, hy47, hs⟩ := bind_some hs
       obtain ⟨a60, n60, c60, w60, f60, hr60, hC60, hf60, hv60⟩ := app_rs Rw59 hy47 hv61 hv37 hO.inM
       have hG60 := os_block hv61
       refine xk_val (w' := w60) (b := true) (.slice a60 n60 c60) rfl  (y_append rfl rfl (hr60 _)) rfl (fun h => nomatch h) ?_
       have h0 := h0.mut hC60 (fun g hg => hO.inM g (hG60 g hg)) (fun _ _ h => nomatch h)
       have h1 := h1.mut hC60 (fun g hg => hO.inM g (hG60 g hg)) (fun _ _ h => nomatch h)
       have hv37 := hv37.mut hC60 (fun g hg => hO.inM g (hG60 g hg)) (fun _ _ h => nomatch h)
       have hv40 := hv40.mut hC60 (fun g hg => hO.inM g (hG60 g hg)) (fun _ _ h => nomatch h)
       have hv58 := hv58.mut hC60 (fun g hg => hO.inM g (hG60 g hg)) (fun g hg e => hO.apart g (hG60 g hg) (mem_l (e)))
       have hC := hC.step hC60 (fun g hg => hO.inN g (hG60 g hg))
       have hO := hO.grow hC60 hf60 (os_nodup hv60) hv60.fpl
       refine x_one (i := 7) (by kernel_rfl) ?_
       obtain ⟨y52, hy52, hs⟩ := bind_some hs
       have hO := hO.fr1
       have hO := hO.fr1
       obtain ⟨a65, n65, c65, w65, f65, hr65, hC65, hf65, hv65⟩ := app_os Rw59 hy52 hv60 hv58 hO.inM (fun g hg hq => hO.apart g hq (mem_l hg))
       have hG65 := os_block hv60
       refine xk_val (w' := w65) (b := true) (.slice a65 n65 c65) rfl  (y_append rfl rfl (hr65 _)) rfl (fun h => nomatch h) ?_
       have hO := hO.fr1
       have hO := hO.fr1
       have h0 := h0.mut hC65 (fun g hg => hO.inM g (hG65 g hg)) (fun _ _ h => nomatch h)
       have h1 := h1.mut hC65 (fun g hg => hO.inM g (hG65 g hg)) (fun _ _ h => nomatch h)
       have hv37 := hv37.mut hC65 (fun g hg => hO.inM g (hG65 g hg)) (fun _ _ h => nomatch h)
       have hv40 := hv40.mut hC65 (fun g hg => hO.inM g (hG65 g hg)) (fun _ _ h => nomatch h)
       have hC := hC.step hC65 (fun g hg => hO.inN g (hG65 g hg))
       have hO := hO.eat hC65 hf65 (os_nodup hv65) hv65.fpl
       refine x_one (i := 11) (by kernel_rfl) ?_
       obtain ⟨y55, hy55, hs⟩ := bind_some hs
       obtain ⟨a68, n68, c68, w68, f68, hr68, hC68, hf68, hv68⟩ := app_rs Rw59 hy55 hv65 hv40 hO.inM
       have hG68 := os_block hv65
       refine xk_val (w' := w68) (b := true) (.slice a68 n68 c68) rfl  (y_append rfl rfl (hr68 _)) rfl (fun h => nomatch h) ?_
       have h0 := h0.mut hC68 (fun g hg => hO.inM g (hG68 g hg)) (fun _ _ h => nomatch h)
       have h1 := h1.mut hC68 (fun g hg => hO.inM g (hG68 g hg)) (fun _ _ h => nomatch h)
       have hv37 := hv37.mut hC68 (fun g hg => hO.inM g (hG68 g hg)) (fun _ _ h => nomatch h)
       have hv40 := hv40.mut hC68 (fun g hg => hO.inM g (hG68 g hg)) (fun _ _ h => nomatch h)
       have hC := hC.step hC68 (fun g hg => hO.inN g (hG68 g hg))
       have hO := hO.grow hC68 hf68 (os_nodup hv68) hv68.fpl
       refine x_p 12 (.slice a68 n68 c68) rfl (by kernel_rfl)  (fun _ => y_assign rfl) (fun h => nomatch h) ?_
       refine x_end (by kernel_rfl) ?_
       clear hS
       refine wp_ret ?_
       cases hs
       obtain ⟨M71, eM71, hs71, hk71, hO, hv71⟩ := frz_own (Frz.os (Frz.rs (Frz.rs Frz.int))) hv68 hO
       have h0 := h0.sub (M' := M71) hs71
       have h1 := h1.sub (M' := M71) hs71
       have hv37 := hv37.sub (M' := M71) hs71
       have hv40 := hv40.sub (M' := M71) hs71
       have hK := hK.trans hk71
       exact ⟨_, a68, n68, c68, fr_ovl 45 ⟨rfl, trivial⟩, hC, (Keeps.out hK hv71)⟩
     ·skip
      obtain ⟨w72, g72, ew72, eg72, hC72, hb72⟩ := new_block w36 [(.slice pa1 pn1 pc1)] 49
      refine xk_val (w' := w72) (b := false) (.slice (some ⟨g72, 0, none⟩) 1 1) rfl  (y_bslice rfl (by rw [ew72, eg72]; kernel_rfl)) rfl (fun _ => hS.ext hC72) ?_
      have h0 := h0.ext hC72
      have h1 := h1.ext hC72
      have hv37 := hv37.ext hC72
      have hv40 := hv40.ext hC72
      have hC := hC.ext hC72
      have hO := hO.new1 hC72 eg72 hb72.lt
      have hv72 := os_of_box (r := (RT.rs (RT.rs (RT.int .i64)))) (M := M) (css := [[(.slice pa1 pn1 pc1)]]) (fps := [([] : List Nat)]) (xs := ([r_] : List (List (List Int)))) hb72 ⟨(rs_unval h1), trivial⟩ (Nat.le_of_ble_eq_true rfl) (List.nodup_cons.2 ⟨(fun h => nomatch h), List.nodup_nil⟩)
      have hv72 : (RT.os 49 (RT.rs (RT.rs (RT.int .i64)))).val M w72 (.slice (some ⟨g72, 0, none⟩) 1 1) [r_] [g72] := hv72
      have hS := hS.ext hC72
      refine x_one (i := 0) (by kernel_rfl) ?_
      obtain ⟨w74, g74, ew74, eg74, hC74, hb74⟩ := new_block w72 [] 49
      refine xk_val (w' := w74) (b := false) (.slice (some ⟨g74, 0, none⟩) 0 0) rfl  (y_bslice rfl (by rw [ew74, eg74]; kernel_rfl)) rfl (fun _ => hS.ext hC74) ?_
      have h0 := h0.ext hC74
      have h1 := h1.ext hC74
      have hv37 := hv37.ext hC74
      have hv40 := hv40.ext hC74
      have hv72 := hv72.ext hC74
      have hC := hC.ext hC74
      have hO := hO.new1 hC74 eg74 hb74.lt
      have hv74 := os_of_box (r := (RT.os 25 (RT.os 3 (RT.int .i64)))) (M := M) (css := []) (fps := []) (xs := ([] : List (List (List Int)))) hb74 trivial (Nat.zero_le _) (List.nodup_cons.2 ⟨(fun h => nomatch h), List.nodup_nil⟩)
      have hv74 : (RT.os 49 (RT.os 25 (RT.os 3 (RT.int .i64)))).val M w74 (.slice (some ⟨g74, 0, none⟩) 0 0) [] [g74] := hv74
      have hS := hS.ext hC74
      refine x_one (i := 4) (by kernel_rfl) ?_
      obtain ⟨M77, f77, hs77, hk77, hO, hv77⟩ := os_inner (Frz.os (Frz.os Frz.int)) hv74 hO
      have h0 := h0.sub (M' := M77) hs77
      have h1 := h1.sub (M' := M77) hs77
      have hv37 := hv37.sub (M' := M77) hs77
      have hv40 := hv40.sub (M' := M77) hs77
      have hv72 := hv72.sub (M' := M77) hs77
      have hK := hk77
      obtain ⟨y47, hy47, hs⟩ := bind_some hs
      obtain ⟨a76, n76, c76, w76, f76, hr76, hC76, hf76, hv76⟩ := app_rs Rw59 hy47 hv77 hv37 hO.inM
      have hG76 := os_block hv77
      refine xk_val (w' := w76) (b := true) (.slice a76 n76 c76) rfl  (y_append rfl rfl (hr76 _)) rfl (fun h => nomatch h) ?_
      have h0 := h0.mut hC76 (fun g hg => hO.inM g (hG76 g hg)) (fun _ _ h => nomatch h)
      have h1 := h1.mut hC76 (fun g hg => hO.inM g (hG76 g hg)) (fun _ _ h => nomatch h)
      have hv37 := hv37.mut hC76 (fun g hg => hO.inM g (hG76 g hg)) (fun _ _ h => nomatch h)
      have hv40 := hv40.mut hC76 (fun g hg => hO.inM g (hG76 g hg)) (fun _ _ h => nomatch h)
      have hv72 := hv72.mut hC76 (fun g hg => hO.inM g (hG76 g hg)) (fun g hg e => hO.apart g (hG76 g hg) (mem_l (e)))
      have hC := hC.step hC76 (fun g hg => hO.inN g (hG76 g hg))
      have hO := hO.grow hC76 hf76 (os_nodup hv76) hv76.fpl
      refine x_one (i := 7) (by kernel_rfl) ?_
      obtain ⟨y52, hy52, hs⟩ := bind_some hs
      have hO := hO.fr1
      have hO := hO.fr1
      obtain ⟨a80, n80, c80, w80, f80, hr80, hC80, hf80, hv80⟩ := app_os Rw59 hy52 hv76 hv72 hO.inM (fun g hg hq => hO.apart g hq (mem_l hg))
      have hG80 := os_block hv76
      refine xk_val (w' := w80) (b := true) (.slice a80 n80 c80) rfl  (y_append rfl rfl (hr80 _)) rfl (fun h => nomatch h) ?_
      have hO := hO.fr1
      have hO := hO.fr1
      have h0 := h0.mut hC80 (fun g hg => hO.inM g (hG80 g hg)) (fun _ _ h => nomatch h)
      have h1 := h1.mut hC80 (fun g hg => hO.inM g (hG80 g hg)) (fun _ _ h => nomatch h)
      have hv37 := hv37.mut hC80 (fun g hg => hO.inM g (hG80 g hg)) (fun _ _ h => nomatch h)
      have hv40 := hv40.mut hC80 (fun g hg => hO.inM g (hG80 g hg)) (fun _ _ h => nomatch h)
      have hC := hC.step hC80 (fun g hg => hO.inN g (hG80 g hg))
      have hO := hO.eat hC80 hf80 (os_nodup hv80) hv80.fpl
      refine x_one (i := 11) (by kernel_rfl) ?_
      obtain ⟨y55, hy55, hs⟩ := bind_some hs
      obtain ⟨a83, n83, c83, w83, f83, hr83, hC83, hf83, hv83⟩ := app_rs Rw59 hy55 hv80 hv40 hO.inM
      have hG83 := os_block hv80
      refine xk_val (w' := w83) (b := true) (.slice a83 n83 c83) rfl  (y_append rfl rfl (hr83 _)) rfl (fun h => nomatch h) ?_
      have h0 := h0.mut hC83 (fun g hg => hO.inM g (hG83 g hg)) (fun _ _ h => nomatch h)
      have h1 := h1.mut hC83 (fun g hg => hO.inM g (hG83 g hg)) (fun _ _ h => nomatch h)
      have hv37 := hv37.mut hC83 (fun g hg => hO.inM g (hG83 g hg)) (fun _ _ h => nomatch h)
      have hv40 := hv40.mut hC83 (fun g hg => hO.inM g (hG83 g hg)) (fun _ _ h => nomatch h)
      have hC := hC.step hC83 (fun g hg => hO.inN g (hG83 g hg))
      have hO := hO.grow hC83 hf83 (os_nodup hv83) hv83.fpl
      refine x_p 12 (.slice a83 n83 c83) rfl (by kernel_rfl)  (fun _ => y_assign rfl) (fun h => nomatch h) ?_
      refine x_end (by kernel_rfl) ?_
      clear hS
      refine wp_ret ?_
      cases hs
      obtain ⟨M86, eM86, hs86, hk86, hO, hv86⟩ := frz_own (Frz.os (Frz.rs (Frz.rs Frz.int))) hv83 hO
      have h0 := h0.sub (M' := M86) hs86
      have h1 := h1.sub (M' := M86) hs86
      have hv37 := hv37.sub (M' := M86) hs86
      have hv40 := hv40.sub (M' := M86) hs86
      have hK := hK.trans hk86
      exact ⟨_, a83, n83, c83, fr_ovl 45 ⟨rfl, trivial⟩, hC, (Keeps.out hK hv86)⟩

theorem Bd69 : Bodied Try.prog 69 := bodied Try.func69 (by kernel_rfl) rfl

theorem Bd70 : Bodied Try.prog 70 := bodied Try.func70 (by kernel_rfl) rfl

theorem Bd72 : Bodied Try.prog 72 := bodied Try.func72 (by kernel_rfl) rfl

end Go.Proofs
