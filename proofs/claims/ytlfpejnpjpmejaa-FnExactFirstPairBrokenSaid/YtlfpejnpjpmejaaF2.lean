/- What functions of the program compute, as plain functions, and that a call gives just that. Conditions: those named in each theorem. -/
import Derived.Test.YtlfpejnpjpmejaaF1
set_option linter.unusedVariables false
namespace Go.Proofs
open Go.G Go.RowKit
set_option maxRecDepth 100000

def k_spec_l18All (M : Nat → Prop) (w0 : World) (r : (List (List (List Int))) × Bool) (a : Act) (w : World) : Prop :=
  ∃ (σ : Nat → Value) (ra0 : Option Addr) (rn0 rc0 : Nat), a = fr 96 (ovl σ [(2, (.slice ra0 rn0 rc0)), (3, (.bool r.2))]) ∧ Chg [] w0 w ∧ (RT.rs (RT.rs (RT.rs (RT.int .i64)))).val (Past M w0 w) w (.slice ra0 rn0 rc0) r.1 []
def s_spec_l18All (a_ : Int × (List (Int × (List Int)))) : Option ((List (List (List Int))) × Bool) :=
  (s_spec_l8Close (a_.1, a_.2) 2 ([])).bind fun r7 =>
  (iter (S := (List (List (List Int))) × (List (List (List Int))) × Int) (R := (List (List (List Int))) × Bool) (fun s2600 =>
  (bif ((decide (s2600.2.2 < (s2600.2.1.length : Int))) && (decide ((s2600.1.length : Int) ≤ 200))) then (iter (S := (List (List (List Int))) × (List (List (List Int))) × Int) (R := (List (List (List Int))) × Bool) (fun s3468 =>
  (bif ((decide (s3468.2.2 < (w64 (a_.1 * a_.1)))) && (decide ((s3468.1.length : Int) ≤ 200))) then (s_spec_l2Args a_.1 2 s3468.2.2).bind fun r3490 =>
  (idx s3468.2.1 s2600.2.2).bind fun x3492 =>
  (s_spec_l8Find x3492 r3490).bind fun r3497 =>
  (bif r3497.2 then some (.nx (s3468.1, s3468.2.1, w64 (s3468.2.2 + 1))) else (idx s3468.2.1 s2600.2.2).bind fun x3500 =>
  (app ([]) x3500).bind fun y3508 =>
  (app y3508 ([r3490])).bind fun y3514 =>
  (s_spec_l8Close (a_.1, a_.2) 2 y3514).bind fun r3518 =>
  (s_spec_l18Put s3468.1 r3518.1).bind fun r3895 =>
  (bif (decide ((s3468.1.length : Int) < (r3895.length : Int))) then (app s3468.2.1 ([r3518.1])).bind fun y3901 =>
  some (.nx (r3895, y3901, w64 (s3468.2.2 + 1))) else some (.nx (s3468.1, s3468.2.1, w64 (s3468.2.2 + 1))))) else some (.br (s3468.1, s3468.2.1, s3468.2.2)))) FU (s2600.1, s2600.2.1, 0)).bind fun o3472 => after o3472 (fun r_ => some (.rt r_)) (fun s3468 =>
  some (.nx (s3468.1, s3468.2.1, w64 (s2600.2.2 + 1)))) else some (.br (s2600.1, s2600.2.1, s2600.2.2)))) FU ([r7.1], [r7.1], 0)).bind fun o2604 => after o2604 (fun r_ => some r_) (fun s2600 =>
  some (s2600.1, (decide ((s2600.1.length : Int) ≤ 200))))
set_option maxHeartbeats 4000000 in
theorem c_spec_l18All {M : Nat → Prop} {w : World} {pa0 : Option Addr} {pn0 pc0 : Nat} (a_ : Int × (List (Int × (List Int)))) (h0 : (RT.rs (RT.pr (RT.int .i64) (RT.rs (RT.int .i64)))).val M w (.slice pa0 pn0 pc0) a_.2 ([])) (hM : ∀ g, w.heap.size ≤ g → M g) {r : (List (List (List Int))) × Bool} (hs : s_spec_l18All a_ = some r) :
    Gives Try.prog 55 [(.agg #[(.int .i64 a_.1), (.slice pa0 pn0 pc0)])] w (fun v w' => ∃ (ra0 : Option Addr) (rn0 rc0 : Nat), v = (.tuple #[(.slice ra0 rn0 rc0), (.bool r.2)]) ∧ Chg [] w w' ∧ (RT.rs (RT.rs (RT.rs (RT.int .i64)))).val (Past M w w') w' (.slice ra0 rn0 rc0) r.1 []) := by
 refine calls_fr Try.func55 rfl Try.ntmps55 (Nat.le_of_ble_eq_true rfl) ?_
 have hO := Own.start (N := Nw w []) hM Nw.fut
 have hC := Chg.refl [] w
 unfold s_spec_l18All at hs
 refine wp_mono (Q := KPost (k_spec_l18All M w r)) ?_ (fun e a P9 h => ?_)
 rotate_left
 ·cases e
  case ret =>
   obtain ⟨σ, ra0, rn0, rc0, rfl, hrest⟩ := h
   exact ret2x Try.results55 (res_tmp rfl) (res_tmp rfl) ⟨ra0, rn0, rc0, rfl, hrest⟩
  all_goals exact (h : False).elim
 refine c_sr ?_
 obtain ⟨Q0, a5, X2, Q1, L7, a3⟩ := new_block w [(.int .i64 a_.1), (.slice pa0 pn0 pc0)] 34
 refine pl_val (w' := Q0) (.pointer (some ⟨a5, 0, none⟩)) (y_box rfl (by rw [X2, Q1]; kernel_rfl)) ?_
 have h0 := h0.ext L7
 have hC := hC.ext L7
 have hO := hO.new1 L7 Q1 a3.lt
 refine pl_val (.slice none 0 0) (y_assign rfl) ?_
 refine pl_val (.bool false) (y_assign rfl) ?_
 refine c_nil ?_
 refine c_sr ?_
 refine pl_val (.agg #[(.int .i64 a_.1), (.slice pa0 pn0 pc0)]) (y_load rfl ((box_load Ag34 Sz34 a3 [] [(.int .i64 a_.1), (.slice pa0 pn0 pc0)] [] rfl rfl (fun h => nomatch h)) _ (Chg.refl _ _))) ?_
 obtain ⟨g1, L8, X3, Q2, D4, Q3⟩ := new_block Q0 [] 25
 refine pl_val (w' := g1) (.slice (some ⟨L8, 0, none⟩) 0 0) (y_bslice rfl (by rw [X3, Q2]; kernel_rfl)) ?_
 have h0 := h0.ext D4
 have a3 := a3.cn D4
 have hC := hC.ext D4
 have hO := hO.new1 D4 Q2 Q3.lt
 have L9 := os_of_box (r := (RT.os 3 (RT.int .i64))) (M := M) (css := []) (fps := []) (xs := ([] : List (List Int))) Q3 trivial (Nat.zero_le _) (List.nodup_cons.2 ⟨(fun h => nomatch h), List.nodup_nil⟩)
 have L9 : (RT.os 25 (RT.os 3 (RT.int .i64))).val M g1 (.slice (some ⟨L8, 0, none⟩) 0 0) [] [L8] := L9
 obtain ⟨e9, a257, X4, X5, hO, v4⟩ := frz_own (Frz.os (Frz.os Frz.int)) L9 hO
 have h0 := h0.sub (M' := e9) X4
 have hK := X5
 obtain ⟨r7, X6, hs⟩ := bind_some hs
 refine pl_call Bd69 rfl (c_spec_l8Close (M := e9) (a_.1, a_.2) 2 ([]) h0 v4 hO.fut X6) ?_
 rintro _ h2 ⟨g2, g3, g4, rfl, v5, s1⟩
 have hK := hK.trans (show Keeps w e9 (Past e9 g1 h2) from Keeps.past hC.size)
 have h0 := h0.ext v5
 have a3 := a3.cn v5
 have v4 := v4.ext v5
 have hC := hC.ext v5
 have hO := hO.past v5
 have h0 := h0.sub (M' := (Past e9 g1 h2)) (fun g hg => .inl hg.1)
 have v4 := v4.sub (M' := (Past e9 g1 h2)) (fun g hg => .inl hg.1)
 refine pl_val (.tuple #[(.slice g2 g3 g4), (.bool r7.2)]) (y_move rfl) ?_
 refine pl_val (.slice g2 g3 g4) (y_extract rfl (by kernel_rfl)) ?_
 refine pl_val (.bool r7.2) (y_extract rfl (by kernel_rfl)) ?_
 refine pl_val (.slice g2 g3 g4) (y_assign rfl) ?_
 refine pl_val (.bool r7.2) (y_assign rfl) ?_
 refine c_nil ?_
 refine c_sr ?_
 refine pl_val (.slice g2 g3 g4) (y_move rfl) ?_
 obtain ⟨M0, v6, X7, Q4, v7, Q5⟩ := new_block h2 [(.slice g2 g3 g4)] 49
 refine pl_val (w' := M0) (.slice (some ⟨v6, 0, none⟩) 1 1) (y_bslice rfl (by rw [X7, Q4]; kernel_rfl)) ?_
 have h0 := h0.ext v7
 have a3 := a3.cn v7
 have s1 := s1.ext v7
 have hC := hC.ext v7
 have hO := hO.new1 v7 Q4 Q5.lt
 have v8 := os_of_box (r := (RT.rs (RT.rs (RT.int .i64)))) (M := (Past e9 g1 h2)) (css := [[(.slice g2 g3 g4)]]) (fps := [([] : List Nat)]) (xs := ([r7.1] : List (List (List Int)))) Q5 ⟨(rs_unval s1), trivial⟩ (Nat.le_of_ble_eq_true rfl) (List.nodup_cons.2 ⟨(fun h => nomatch h), List.nodup_nil⟩)
 have v8 : (RT.os 49 (RT.rs (RT.rs (RT.int .i64)))).val (Past e9 g1 h2) M0 (.slice (some ⟨v6, 0, none⟩) 1 1) [r7.1] [v6] := v8
 refine pl_val (.slice g2 g3 g4) (y_move rfl) ?_
 obtain ⟨Q6, s2, X8, Q7, s3, Q8⟩ := new_block M0 [(.slice g2 g3 g4)] 49
 refine pl_val (w' := Q6) (.slice (some ⟨s2, 0, none⟩) 1 1) (y_bslice rfl (by rw [X8, Q7]; kernel_rfl)) ?_
 have h0 := h0.ext s3
 have a3 := a3.cn s3
 have s1 := s1.ext s3
 have v8 := v8.ext s3
 have hC := hC.ext s3
 have hO := hO.new1 s3 Q7 Q8.lt
 have v9 := os_of_box (r := (RT.rs (RT.rs (RT.int .i64)))) (M := (Past e9 g1 h2)) (css := [[(.slice g2 g3 g4)]]) (fps := [([] : List Nat)]) (xs := ([r7.1] : List (List (List Int)))) Q8 ⟨(rs_unval s1), trivial⟩ (Nat.le_of_ble_eq_true rfl) (List.nodup_cons.2 ⟨(fun h => nomatch h), List.nodup_nil⟩)
 have v9 : (RT.os 49 (RT.rs (RT.rs (RT.int .i64)))).val (Past e9 g1 h2) Q6 (.slice (some ⟨s2, 0, none⟩) 1 1) [r7.1] [s2] := v9
 refine pl_val (.slice (some ⟨v6, 0, none⟩) 1 1) (y_assign rfl) ?_
 refine pl_val (.slice (some ⟨s2, 0, none⟩) 1 1) (y_assign rfl) ?_
 refine c_nil ?_
 refine c_seq ?_
 refine c_sr ?_
 refine pl_val (.int .i64 0) (y_assign rfl) ?_
 refine c_nil ?_
 have hO := hO.fr1
 obtain ⟨M1, a258, Q9, X9, hO, Y0⟩ := frz_own (Frz.os (Frz.rs (Frz.rs Frz.int))) v8 hO
 have h0 := h0.sub (M' := M1) Q9
 have v9 := v9.sub (M' := M1) Q9
 have hK := hK.trans X9
 obtain ⟨o2604, Y1, hs⟩ := bind_some hs
 refine wp_block ?_
 refine wp_iter (id := 0) (I := fun s2600 a b5 => ∃ (σ : Nat → Value) (h3 : Nat → Prop) (m0 : Option Addr) (m1 : Nat) (m2 : Nat) (m3 : Option Addr) (m4 : Nat) (m5 : Nat) (w1 : List Nat), a = fr 96 (ovl σ [(1, (.pointer (some ⟨a5, 0, none⟩))), (6, (.slice m0 m1 m2)), (7, (.slice m3 m4 m5)), (8, (.int .i64 s2600.2.2))]) ∧ Chg [] w b5 ∧ Own (Nw w []) h3 b5 (w1 ++ (([a5]) ++ [])) ∧ Keeps w M h3 ∧ (RT.rs (RT.pr (RT.int .i64) (RT.rs (RT.int .i64)))).val h3 b5 (.slice pa0 pn0 pc0) a_.2 ([]) ∧ BoxV b5 a5 34 [(.int .i64 a_.1), (.slice pa0 pn0 pc0)] ∧ (RT.rs (RT.rs (RT.rs (RT.int .i64)))).val h3 b5 (.slice m0 m1 m2) s2600.1 ([]) ∧ (RT.os 49 (RT.rs (RT.rs (RT.int .i64)))).val h3 b5 (.slice m3 m4 m5) s2600.2.1 w1) (J := fun s2600 a b5 => ∃ (σ : Nat → Value) (s4 : Nat → Prop) (m6 : Option Addr) (m7 : Nat) (m8 : Nat) (R0 : Option Addr) (R1 : Nat) (R2 : Nat) (M2 : List Nat), a = fr 96 (ovl σ [(6, (.slice m6 m7 m8))]) ∧ Chg [] w b5 ∧ Own (Nw w []) s4 b5 (M2 ++ (([a5]) ++ [])) ∧ Keeps w M s4 ∧ (RT.rs (RT.pr (RT.int .i64) (RT.rs (RT.int .i64)))).val s4 b5 (.slice pa0 pn0 pc0) a_.2 ([]) ∧ BoxV b5 a5 34 [(.int .i64 a_.1), (.slice pa0 pn0 pc0)] ∧ (RT.rs (RT.rs (RT.rs (RT.int .i64)))).val s4 b5 (.slice m6 m7 m8) s2600.1 ([]) ∧ (RT.os 49 (RT.rs (RT.rs (RT.int .i64)))).val s4 b5 (.slice R0 R1 R2) s2600.2.1 M2) (K := (k_spec_l18All M w)) ?_ FU ([r7.1], [r7.1], 0) o2604 _ _ ?_ Y1 ?_
 ·rintro s2600 o2604 a b5 ⟨σ, h3, m0, m1, m2, m3, m4, m5, w1, rfl, hC, hO, hK, h0, a3, w2, w3⟩ hs
  refine c_seq ?_
  refine c_seq ?_
  refine c_mid (I := fun a R3 => ∃ (σ : Nat → Value), a = fr 96 (ovl σ [(1, (.pointer (some ⟨a5, 0, none⟩))), (6, (.slice m0 m1 m2)), (7, (.slice m3 m4 m5)), (8, (.int .i64 s2600.2.2)), (34, (.bool ((decide (s2600.2.2 < (s2600.2.1.length : Int))) && (decide ((s2600.1.length : Int) ≤ 200)))))]) ∧ Chg [] b5 R3) ?_ ?_
  ·have hMid := Chg.refl [] b5
   refine c_region ?_
   refine pl_val (.int .i64 s2600.2.2) (y_move rfl) ?_
   refine pl_val (.slice m3 m4 m5) (y_move rfl) ?_
   refine pl_val (.int .i64 (s2600.2.1.length : Int)) (y_len' Sl59 (os_len w3) rfl) ?_
   refine pl_val (.bool (decide (s2600.2.2 < (s2600.2.1.length : Int)))) (y_lss rfl rfl) ?_
   refine pl_val (.bool (decide (s2600.2.2 < (s2600.2.1.length : Int)))) (y_move rfl) ?_
   rcases Bool.eq_false_or_eq_true ((decide (s2600.2.2 < (s2600.2.1.length : Int)))) with e2 | e2
   ·skip
    refine pl_yes (.slice m0 m1 m2) (tg := 30) (by kernel_rfl) (congrArg Value.bool e2) (y_move rfl) ?_
    refine pl_yes (.int .i64 (s2600.1.length : Int)) (tg := 30) (by kernel_rfl) (congrArg Value.bool e2) (y_len' Sl59 (rs_len w2) rfl) ?_
    refine pl_yes (.bool (decide ((s2600.1.length : Int) ≤ 200))) (tg := 30) (by kernel_rfl) (congrArg Value.bool e2) (y_leq rfl rfl) ?_
    refine pl_val (.bool ((decide (s2600.2.2 < (s2600.2.1.length : Int))) && (decide ((s2600.1.length : Int) ≤ 200)))) (y_pick_t (congrArg Value.bool e2) (congrArg Value.bool (by rw [e2]; rfl))) ?_
    refine c_nil ?_
    exact ⟨_, fr_ovl 96 ⟨rfl, rfl, rfl, rfl, rfl, trivial⟩, hMid⟩
   refine pl_not (tg := 30) (by kernel_rfl) (congrArg Value.bool e2) ?_
   refine pl_not (tg := 30) (by kernel_rfl) (congrArg Value.bool e2) ?_
   refine pl_not (tg := 30) (by kernel_rfl) (congrArg Value.bool e2) ?_
   refine pl_val (.bool ((decide (s2600.2.2 < (s2600.2.1.length : Int))) && (decide ((s2600.1.length : Int) ≤ 200)))) (y_pick_f (congrArg Value.bool e2) (congrArg Value.bool (by rw [e2]; rfl))) ?_
   refine c_nil ?_
   exact ⟨_, fr_ovl 96 ⟨rfl, rfl, rfl, rfl, rfl, trivial⟩, hMid⟩
  rintro s5 R3 ⟨σ, rfl, s6⟩
  have h0 := h0.ext s6
  have a3 := a3.cn s6
  have w2 := w2.ext s6
  have w3 := w3.ext s6
  have hC := hC.ext s6
  have hO := hO.ext s6
  rcases bif_some hs with ⟨M3, hs⟩ | ⟨M3, hs⟩
  ·refine c_condT (congrArg Value.bool M3) ?_
   refine wp_skip ?_
   refine c_seq ?_
   refine wp_block ?_
   refine c_sr ?_
   refine pl_val (.int .i64 0) (y_assign rfl) ?_
   refine c_nil ?_
   obtain ⟨o3472, Y2, hs⟩ := bind_some hs
   refine wp_block ?_
   refine wp_iter (id := 2) (I := fun s3468 a b6 => ∃ (σ : Nat → Value) (a6 : Nat → Prop) (d6 : Option Addr) (d7 : Nat) (d8 : Nat) (d9 : Option Addr) (e0 : Nat) (e1 : Nat) (b2 : List Nat), a = fr 96 (ovl σ [(1, (.pointer (some ⟨a5, 0, none⟩))), (6, (.slice d6 d7 d8)), (7, (.slice d9 e0 e1)), (8, (.int .i64 s2600.2.2)), (9, (.int .i64 s3468.2.2))]) ∧ Chg [] w b6 ∧ Own (Nw w []) a6 b6 (b2 ++ (([a5]) ++ [])) ∧ Keeps w M a6 ∧ (RT.rs (RT.pr (RT.int .i64) (RT.rs (RT.int .i64)))).val a6 b6 (.slice pa0 pn0 pc0) a_.2 ([]) ∧ BoxV b6 a5 34 [(.int .i64 a_.1), (.slice pa0 pn0 pc0)] ∧ (RT.rs (RT.rs (RT.rs (RT.int .i64)))).val a6 b6 (.slice d6 d7 d8) s3468.1 ([]) ∧ (RT.os 49 (RT.rs (RT.rs (RT.int .i64)))).val a6 b6 (.slice d9 e0 e1) s3468.2.1 b2) (J := fun s3468 a b6 => ∃ (σ : Nat → Value) (m9 : Nat → Prop) (D5 : Option Addr) (D6 : Nat) (D7 : Nat) (D8 : Option Addr) (D9 : Nat) (E0 : Nat) (E1 : List Nat), a = fr 96 (ovl σ [(1, (.pointer (some ⟨a5, 0, none⟩))), (6, (.slice D5 D6 D7)), (7, (.slice D8 D9 E0)), (8, (.int .i64 s2600.2.2))]) ∧ Chg [] w b6 ∧ Own (Nw w []) m9 b6 (E1 ++ (([a5]) ++ [])) ∧ Keeps w M m9 ∧ (RT.rs (RT.pr (RT.int .i64) (RT.rs (RT.int .i64)))).val m9 b6 (.slice pa0 pn0 pc0) a_.2 ([]) ∧ BoxV b6 a5 34 [(.int .i64 a_.1), (.slice pa0 pn0 pc0)] ∧ (RT.rs (RT.rs (RT.rs (RT.int .i64)))).val m9 b6 (.slice D5 D6 D7) s3468.1 ([]) ∧ (RT.os 49 (RT.rs (RT.rs (RT.int .i64)))).val m9 b6 (.slice D8 D9 E0) s3468.2.1 E1) (K := (k_spec_l18All M w)) ?_ FU (s2600.1, s2600.2.1, 0) o3472 _ _ ?_ Y2 ?_
   ·rintro s3468 o3472 a b6 ⟨σ, a6, d6, d7, d8, d9, e0, e1, b2, rfl, hC, hO, hK, h0, a3, a1, a0⟩ hs
    refine c_seq ?_
    refine c_seq ?_
    refine c_mid (I := fun a R4 => ∃ (σ : Nat → Value), a = fr 96 (ovl σ [(1, (.pointer (some ⟨a5, 0, none⟩))), (6, (.slice d6 d7 d8)), (7, (.slice d9 e0 e1)), (8, (.int .i64 s2600.2.2)), (9, (.int .i64 s3468.2.2)), (48, (.bool ((decide (s3468.2.2 < (w64 (a_.1 * a_.1)))) && (decide ((s3468.1.length : Int) ≤ 200)))))]) ∧ Chg [] b6 R4) ?_ ?_
    ·have hMid := Chg.refl [] b6
     refine c_region ?_
     refine pl_val (.int .i64 s3468.2.2) (y_move rfl) ?_
     refine pl_val (.pointer (some ⟨a5, 0, none⟩)) (y_faddr rfl Fa34x0) ?_
     refine pl_val (.int .i64 a_.1) (y_load rfl ((box_load Ag3 Sz3 a3 [] [(.int .i64 a_.1)] [(.slice pa0 pn0 pc0)] rfl rfl (fun _ => rfl)) _ (Chg.refl _ _))) ?_
     refine pl_val (.pointer (some ⟨a5, 0, none⟩)) (y_faddr rfl Fa34x0) ?_
     refine pl_val (.int .i64 a_.1) (y_load rfl ((box_load Ag3 Sz3 a3 [] [(.int .i64 a_.1)] [(.slice pa0 pn0 pc0)] rfl rfl (fun _ => rfl)) _ (Chg.refl _ _))) ?_
     refine pl_val (.int .i64 (w64 (a_.1 * a_.1))) (y_mul rfl rfl) ?_
     refine pl_val (.bool (decide (s3468.2.2 < (w64 (a_.1 * a_.1))))) (y_lss rfl rfl) ?_
     refine pl_val (.bool (decide (s3468.2.2 < (w64 (a_.1 * a_.1))))) (y_move rfl) ?_
     rcases Bool.eq_false_or_eq_true ((decide (s3468.2.2 < (w64 (a_.1 * a_.1))))) with e3 | e3
     ·skip
      refine pl_yes (.slice d6 d7 d8) (tg := 44) (by kernel_rfl) (congrArg Value.bool e3) (y_move rfl) ?_
      refine pl_yes (.int .i64 (s3468.1.length : Int)) (tg := 44) (by kernel_rfl) (congrArg Value.bool e3) (y_len' Sl59 (rs_len a1) rfl) ?_
      refine pl_yes (.bool (decide ((s3468.1.length : Int) ≤ 200))) (tg := 44) (by kernel_rfl) (congrArg Value.bool e3) (y_leq rfl rfl) ?_
      refine pl_val (.bool ((decide (s3468.2.2 < (w64 (a_.1 * a_.1)))) && (decide ((s3468.1.length : Int) ≤ 200)))) (y_pick_t (congrArg Value.bool e3) (congrArg Value.bool (by rw [e3]; rfl))) ?_
      refine c_nil ?_
      exact ⟨_, fr_ovl 96 ⟨rfl, rfl, rfl, rfl, rfl, rfl, trivial⟩, hMid⟩
     refine pl_not (tg := 44) (by kernel_rfl) (congrArg Value.bool e3) ?_
     refine pl_not (tg := 44) (by kernel_rfl) (congrArg Value.bool e3) ?_
     refine pl_not (tg := 44) (by kernel_rfl) (congrArg Value.bool e3) ?_
     refine pl_val (.bool ((decide (s3468.2.2 < (w64 (a_.1 * a_.1)))) && (decide ((s3468.1.length : Int) ≤ 200)))) (y_pick_f (congrArg Value.bool e3) (congrArg Value.bool (by rw [e3]; rfl))) ?_
     refine c_nil ?_
     exact ⟨_, fr_ovl 96 ⟨rfl, rfl, rfl, rfl, rfl, rfl, trivial⟩, hMid⟩
    rintro s5 R4 ⟨σ, rfl, s7⟩
    have h0 := h0.ext s7
    have a3 := a3.cn s7
    have a1 := a1.ext s7
    have a0 := a0.ext s7
    have hC := hC.ext s7
    have hO := hO.ext s7
    rcases bif_some hs with ⟨M4, hs⟩ | ⟨M4, hs⟩
    ·refine c_condT (congrArg Value.bool M4) ?_
     refine wp_skip ?_
     refine c_seq ?_
     refine wp_block ?_
     refine c_sr ?_
     refine pl_val (.pointer (some ⟨a5, 0, none⟩)) (y_faddr rfl Fa34x0) ?_
     refine pl_val (.int .i64 a_.1) (y_load rfl ((box_load Ag3 Sz3 a3 [] [(.int .i64 a_.1)] [(.slice pa0 pn0 pc0)] rfl rfl (fun _ => rfl)) _ (Chg.refl _ _))) ?_
     refine pl_val (.int .i64 s3468.2.2) (y_move rfl) ?_
     obtain ⟨r3490, Y3, hs⟩ := bind_some hs
     refine pl_call Bd70 rfl (c_spec_l2Args (M := a6) a_.1 2 s3468.2.2  hO.fut Y3) ?_
     rintro _ a259 ⟨a9, b0, b1, a7, rfl, s8, a4, Y4⟩
     have h0 := h0.ext s8
     have a3 := a3.cn s8
     have a1 := a1.ext s8
     have a0 := a0.ext s8
     have hC := hC.ext s8
     have hO := Own.join0 hO s8 Y4
     have hO := hO.perm (R := a7 ++ (b2 ++ (([a5]) ++ ([])))) (by simp)
     refine pl_val (.slice a9 b0 b1) (y_assign rfl) ?_
     refine c_nil ?_
     refine c_seq ?_
     refine c_sr ?_
     refine pl_val (.slice d9 e0 e1) (y_move rfl) ?_
     refine pl_val (.int .i64 s2600.2.2) (y_move rfl) ?_
     obtain ⟨x3492, Y5, hs⟩ := bind_some hs
     obtain ⟨Y6, a260, a261, a262, Y7, Y8, a263⟩ := os_idx Sl59 Sz49 a0 Y5
     have Y9 := rd_row Rd.rs Y8
     refine pl_val (.pointer (some ⟨Y6, 0 + Int.toNat s2600.2.2 * 1, none⟩)) (Y7 _ _ _ _ _ _ _ _ _ rfl rfl) ?_
     obtain ⟨a264, Z0, E2⟩ := at_load Ag49 Sz49 (fun _ => rfl) Y9
     obtain ⟨Z1, Z2, Z3, rfl⟩ := rs_sl E2
     refine pl_val (.slice Z1 Z2 Z3) (y_load rfl (Z0 _ (Chg.refl _ _))) ?_
     refine pl_val (.slice a9 b0 b1) (y_move rfl) ?_
     obtain ⟨r3497, Z4, hs⟩ := bind_some hs
     refine pl_call Bd71 rfl (c_spec_l8Find (M := (Less a6 a7)) x3492 r3490 (E2.sub Less.sub) (((Frz.os Frz.int)).val a4 Less.sub Less.not) hO.less.fut Z4) ?_
     rintro _ R5 ⟨rfl, h4⟩
     have h0 := h0.ext h4
     have a3 := a3.cn h4
     have a1 := a1.ext h4
     have a0 := a0.ext h4
     have a4 := a4.ext h4
     have E2 := E2.ext h4
     have hC := hC.ext h4
     have hO := hO.ext h4
     refine pl_val (.tuple #[(.int .i64 r3497.1), (.bool r3497.2)]) (y_move rfl) ?_
     refine pl_val (.int .i64 r3497.1) (y_extract rfl (by kernel_rfl)) ?_
     refine pl_val (.bool r3497.2) (y_extract rfl (by kernel_rfl)) ?_
     refine pl_val (.int .i64 r3497.1) (y_assign rfl) ?_
     refine pl_val (.bool r3497.2) (y_assign rfl) ?_
     refine c_nil ?_
     refine c_sr ?_
     refine pl_val (.bool r3497.2) (y_move rfl) ?_
     refine c_nil ?_
     rcases bif_some hs with ⟨M5, hs⟩ | ⟨M5, hs⟩
     ·refine c_condT (congrArg Value.bool M5) ?_
      refine wp_exit ?_
      refine c_region ?_
      refine pl_val (.int .i64 s3468.2.2) (y_move rfl) ?_
      refine pl_val (.int .i64 (w64 (s3468.2.2 + 1))) (y_add rfl rfl) ?_
      refine pl_val (.int .i64 (w64 (s3468.2.2 + 1))) (y_assign rfl) ?_
      refine c_nil ?_
      cases hs
      have hO := hO.drop
      have hO := hO.fr1
      have hO := hO.fr1
      exact ⟨_, a6, d6, d7, d8, d9, e0, e1, b2, fr_ovl 96 ⟨rfl, rfl, rfl, rfl, rfl, trivial⟩, hC, hO, hK, h0, a3, a1, a0⟩
     refine c_condF (congrArg Value.bool M5) ?_
     refine wp_skip ?_
     refine c_seq ?_
     obtain ⟨x3500, Z5, hs⟩ := bind_some hs
     obtain ⟨y3508, e4, hs⟩ := bind_some hs
     obtain ⟨y3514, b8, hs⟩ := bind_some hs
     obtain ⟨r3518, b9, hs⟩ := bind_some hs
     refine c_mid (I := fun a b7 => ∃ (σ : Nat → Value) (b3 : Nat → Prop) (n0 : Option Addr) (n1 : Nat) (n2 : Nat), a = fr 96 (ovl σ [(1, (.pointer (some ⟨a5, 0, none⟩))), (6, (.slice d6 d7 d8)), (7, (.slice d9 e0 e1)), (8, (.int .i64 s2600.2.2)), (9, (.int .i64 s3468.2.2)), (13, (.slice n0 n2 n1))]) ∧ Chg [] w b7 ∧ Own (Nw w []) b3 b7 (b2 ++ (([a5]) ++ [])) ∧ Keeps w M b3 ∧ (RT.rs (RT.pr (RT.int .i64) (RT.rs (RT.int .i64)))).val b3 b7 (.slice pa0 pn0 pc0) a_.2 ([]) ∧ BoxV b7 a5 34 [(.int .i64 a_.1), (.slice pa0 pn0 pc0)] ∧ (RT.rs (RT.rs (RT.rs (RT.int .i64)))).val b3 b7 (.slice d6 d7 d8) s3468.1 ([]) ∧ (RT.os 49 (RT.rs (RT.rs (RT.int .i64)))).val b3 b7 (.slice d9 e0 e1) s3468.2.1 b2 ∧ (RT.rs (RT.rs (RT.int .i64))).val b3 b7 (.slice n0 n2 n1) r3518.1 ([])) ?_ ?_
     ·skip
      refine x_start [6, 9, 10] Mx rfl ?_
      have h5 := Chg.drew R5
      generalize World.drew R5 = w4 at h5 ⊢
      have h0 := h0.ext h5
      have a3 := a3.cn h5
      have a1 := a1.ext h5
      have a0 := a0.ext h5
      have a4 := a4.ext h5
      have hC := hC.ext h5
      have hO := hO.ext h5
      have hS := Chg.refl [] w4
      refine x_p 2 (.slice d9 e0 e1) rfl (by kernel_rfl)  (fun _ => y_move rfl) (fun _ => hS) ?_
      refine x_p 3 (.int .i64 s2600.2.2) rfl (by kernel_rfl)  (fun _ => y_move rfl) (fun _ => hS) ?_
      obtain ⟨Z6, a265, a266, a267, Z7, Z8, a268⟩ := os_idx Sl59 Sz49 a0 Z5
      have Z9 := rd_row Rd.rs Z8
      refine x_p 4 (.pointer (some ⟨Z6, 0 + Int.toNat s2600.2.2 * 1, none⟩)) rfl (by kernel_rfl)  (fun _ => Z7 _ _ _ _ _ _ _ _ _ rfl rfl) (fun _ => hS) ?_
      obtain ⟨a269, a10, a2⟩ := at_load Ag49 Sz49 (fun _ => rfl) Z9
      obtain ⟨a11, a12, a13, rfl⟩ := rs_sl a2
      refine x_l 5 (.slice a11 a12 a13) rfl (by kernel_rfl)  (fun w' hw' => y_load rfl (a10 w' hw')) hS ?_
      refine x_p 7 (.slice a9 b0 b1) rfl (by kernel_rfl)  (fun _ => y_move rfl) (fun _ => hS) ?_
      refine x_many [0, 1, 8] (by kernel_rfl) (fun h => nomatch h) (all3 ?_ ?_ ?_)
      ·skip
       refine xk_val (b := false) (.agg #[(.int .i64 a_.1), (.slice pa0 pn0 pc0)]) rfl  (y_load rfl ((box_load Ag34 Sz34 a3 [] [(.int .i64 a_.1), (.slice pa0 pn0 pc0)] [] rfl rfl (fun h => nomatch h)) _ (Chg.refl _ _))) rfl (fun _ => hS) ?_
       refine x_two (i := 1) (j := 8) (by kernel_rfl) ?_ ?_
       ·skip
        obtain ⟨M6, E3, a14, R6, f0, R7⟩ := new_block w4 [] 25
        refine xk_val (w' := M6) (b := false) (.slice (some ⟨E3, 0, none⟩) 0 0) rfl  (y_bslice rfl (by rw [a14, R6]; kernel_rfl)) rfl (fun _ => hS.ext f0) ?_
        have h0 := h0.ext f0
        have a3 := a3.cn f0
        have a1 := a1.ext f0
        have a0 := a0.ext f0
        have a4 := a4.ext f0
        have a2 := a2.ext f0
        have hC := hC.ext f0
        have hO := hO.new1 f0 R6 R7.lt
        have s9 := os_of_box (r := (RT.os 3 (RT.int .i64))) (M := a6) (css := []) (fps := []) (xs := ([] : List (List Int))) R7 trivial (Nat.zero_le _) (List.nodup_cons.2 ⟨(fun h => nomatch h), List.nodup_nil⟩)
        have s9 : (RT.os 25 (RT.os 3 (RT.int .i64))).val a6 M6 (.slice (some ⟨E3, 0, none⟩) 0 0) [] [E3] := s9
        have hS := hS.ext f0
        refine x_two (i := 6) (j := 8) (by kernel_rfl) ?_ ?_
        ·skip
         obtain ⟨n3, a270, w5, a15, hO, R8⟩ := os_inner (Frz.os Frz.int) s9 hO
         have h0 := h0.sub (M' := n3) w5
         have a1 := a1.sub (M' := n3) w5
         have a0 := a0.sub (M' := n3) w5
         have a4 := a4.sub (M' := n3) w5
         have a2 := a2.sub (M' := n3) w5
         have hK := hK.trans a15
         obtain ⟨a16, a17, a18, R9, a19, a20, h6, a21, h7⟩ := app_rs Rw49 e4 R8 a2 hO.inM
         have n4 := os_block R8
         refine xk_val (w' := R9) (b := true) (.slice a16 a17 a18) rfl  (y_append rfl rfl (a20 _)) rfl (fun h => nomatch h) ?_
         have h0 := h0.mt h6 hO n4
         have a3 := a3.ap h6 hO n4 (mem_r (mem_r (mem_l (List.mem_singleton.2 rfl))))
         have a1 := a1.mt h6 hO n4
         have a0 := a0.ma h6 hO n4 (fun _ e => (mem_r (mem_l (e))))
         have a4 := a4.ma h6 hO n4 (fun _ e => (mem_l (e)))
         have a2 := a2.mt h6 hO n4
         have hC := hC.st h6 hO n4
         have hO := hO.grow h6 a21 (os_nodup h7) h7.fpl
         refine x_one (i := 8) (by kernel_rfl) ?_
         obtain ⟨S0, E4, a22, S1, g5, S2⟩ := new_block R9 [(.slice a9 b0 b1)] 25
         refine xk_val (w' := S0) (b := true) (.slice (some ⟨E4, 0, none⟩) 1 1) rfl  (y_bslice rfl (by rw [a22, S1]; kernel_rfl)) rfl (fun h => nomatch h) ?_
         have h0 := h0.ext g5
         have a3 := a3.cn g5
         have a1 := a1.ext g5
         have a0 := a0.ext g5
         have a4 := a4.ext g5
         have a2 := a2.ext g5
         have h7 := h7.ext g5
         have hC := hC.ext g5
         have hO := hO.fr1
         have hO := hO.new1 g5 S1 S2.lt
         have hO := hO.perm (R := (E4 :: ((a7) ++ ([]))) ++ (a19 ++ (b2 ++ (([a5]) ++ ([]))))) (by simp)
         have a23 := hO.nd
         have M7 := os_of_box (r := (RT.os 3 (RT.int .i64))) (M := n3) (css := [[(.slice a9 b0 b1)]]) (fps := [(a7 : List Nat)]) (xs := ([r3490] : List (List Int))) S2 ⟨(os_unval a4), trivial⟩ (Nat.le_of_ble_eq_true rfl) a23
         have M7 : (RT.os 25 (RT.os 3 (RT.int .i64))).val n3 S0 (.slice (some ⟨E4, 0, none⟩) 1 1) [r3490] (E4 :: ((a7) ++ ([]))) := M7
         refine x_one (i := 9) (by kernel_rfl) ?_
         obtain ⟨w6, a271, w7, a24, hO, a25⟩ := os_inner (Frz.os Frz.int) M7 hO
         have h0 := h0.sub (M' := w6) w7
         have a1 := a1.sub (M' := w6) w7
         have a0 := a0.sub (M' := w6) w7
         have a2 := a2.sub (M' := w6) w7
         have h7 := h7.sub (M' := w6) w7
         have hK := hK.trans a24
         have hO := hO.fr1
         obtain ⟨a26, a27, a28, h8, a272, a29, n5, a30, M8⟩ := app_os Rw49 b8 h7 a25 hO.inM (fun g hg hq => hO.apart g hq (mem_l hg))
         have t0 := os_block h7
         refine xk_val (w' := h8) (b := true) (.slice a26 a27 a28) rfl  (y_append rfl rfl (a29 _)) rfl (fun h => nomatch h) ?_
         have hO := hO.fr1
         have hO := hO.fr1
         have h0 := h0.mt n5 hO t0
         have a3 := a3.ap n5 hO t0 (mem_r (mem_r (mem_l (List.mem_singleton.2 rfl))))
         have a1 := a1.mt n5 hO t0
         have a0 := a0.ma n5 hO t0 (fun _ e => (mem_r (mem_l (e))))
         have a2 := a2.mt n5 hO t0
         have hC := hC.st n5 hO t0
         have hO := hO.eat n5 a30 (os_nodup M8) M8.fpl
         refine x_one (i := 10) (by kernel_rfl) ?_
         obtain ⟨c0, a273, E5, a31, hO, w8⟩ := frz_own (Frz.os (Frz.rs Frz.int)) M8 hO
         have h0 := h0.sub (M' := c0) E5
         have a1 := a1.sub (M' := c0) E5
         have a0 := a0.sub (M' := c0) E5
         have a2 := a2.sub (M' := c0) E5
         have hK := hK.trans a31
         refine xk_call (b := true) rfl  Bd69 rfl (c_spec_l8Close (M := c0) (a_.1, a_.2) 2 y3514 h0 w8 hO.fut b9) rfl (fun h => nomatch h) ?_
         rintro _ n6 ⟨E6, E7, E8, rfl, h9, a32⟩
         have hK := hK.trans (show Keeps w c0 (Past c0 h8 n6) from Keeps.past hC.size)
         have h0 := h0.ext h9
         have a3 := a3.cn h9
         have a1 := a1.ext h9
         have a0 := a0.ext h9
         have a2 := a2.ext h9
         have w8 := w8.ext h9
         have hC := hC.ext h9
         have hO := hO.past h9
         have h0 := h0.sub (M' := (Past c0 h8 n6)) (fun g hg => .inl hg.1)
         have a1 := a1.sub (M' := (Past c0 h8 n6)) (fun g hg => .inl hg.1)
         have a0 := a0.sub (M' := (Past c0 h8 n6)) (fun g hg => .inl hg.1)
         have a2 := a2.sub (M' := (Past c0 h8 n6)) (fun g hg => .inl hg.1)
         have w8 := w8.sub (M' := (Past c0 h8 n6)) (fun g hg => .inl hg.1)
         refine x_p 11 (.tuple #[(.slice E6 E7 E8), (.bool r3518.2)]) rfl (by kernel_rfl)  (fun _ => y_move rfl) (fun h => nomatch h) ?_
         refine x_p 12 (.slice E6 E7 E8) rfl (by kernel_rfl)  (fun _ => y_extract rfl (by kernel_rfl)) (fun h => nomatch h) ?_
         refine x_p 13 (.bool r3518.2) rfl (by kernel_rfl)  (fun _ => y_extract rfl (by kernel_rfl)) (fun h => nomatch h) ?_
         refine x_p 14 (.slice E6 E7 E8) rfl (by kernel_rfl)  (fun _ => y_assign rfl) (fun h => nomatch h) ?_
         refine x_p 15 (.bool r3518.2) rfl (by kernel_rfl)  (fun _ => y_assign rfl) (fun h => nomatch h) ?_
         refine x_end (by kernel_rfl) ?_
         clear hS
         have hO := hO.fr1
         have hO := hO.fr1
         exact ⟨_, (Past c0 h8 n6), E6, E8, E7, fr_ovl 96 ⟨rfl, rfl, rfl, rfl, rfl, rfl, trivial⟩, hC, hO, hK, h0, a3, a1, a0, a32⟩
        ·skip
         obtain ⟨S3, E9, a33, S4, e5, S5⟩ := new_block M6 [(.slice a9 b0 b1)] 25
         refine xk_val (w' := S3) (b := false) (.slice (some ⟨E9, 0, none⟩) 1 1) rfl  (y_bslice rfl (by rw [a33, S4]; kernel_rfl)) rfl (fun _ => hS.ext e5) ?_
         have h0 := h0.ext e5
         have a3 := a3.cn e5
         have a1 := a1.ext e5
         have a0 := a0.ext e5
         have a4 := a4.ext e5
         have a2 := a2.ext e5
         have s9 := s9.ext e5
         have hC := hC.ext e5
         have hO := hO.fr1
         have hO := hO.new1 e5 S4 S5.lt
         have hO := hO.perm (R := (E9 :: ((a7) ++ ([]))) ++ (([E3]) ++ (b2 ++ (([a5]) ++ ([]))))) (by simp)
         have a34 := hO.nd
         have n7 := os_of_box (r := (RT.os 3 (RT.int .i64))) (M := a6) (css := [[(.slice a9 b0 b1)]]) (fps := [(a7 : List Nat)]) (xs := ([r3490] : List (List Int))) S5 ⟨(os_unval a4), trivial⟩ (Nat.le_of_ble_eq_true rfl) a34
         have n7 : (RT.os 25 (RT.os 3 (RT.int .i64))).val a6 S3 (.slice (some ⟨E9, 0, none⟩) 1 1) [r3490] (E9 :: ((a7) ++ ([]))) := n7
         have hS := hS.ext e5
         refine x_one (i := 6) (by kernel_rfl) ?_
         have hO := hO.fr1
         obtain ⟨w9, a274, x0, a35, hO, S6⟩ := os_inner (Frz.os Frz.int) s9 hO
         have h0 := h0.sub (M' := w9) x0
         have a1 := a1.sub (M' := w9) x0
         have a0 := a0.sub (M' := w9) x0
         have a2 := a2.sub (M' := w9) x0
         have n7 := n7.sub (M' := w9) x0
         have hK := hK.trans a35
         obtain ⟨a36, a37, a38, a39, a275, a40, i0, a41, t1⟩ := app_rs Rw49 e4 S6 a2 hO.inM
         have n8 := os_block S6
         refine xk_val (w' := a39) (b := true) (.slice a36 a37 a38) rfl  (y_append rfl rfl (a40 _)) rfl (fun h => nomatch h) ?_
         have h0 := h0.mt i0 hO n8
         have a3 := a3.ap i0 hO n8 (mem_r (mem_r (mem_l (List.mem_singleton.2 rfl))))
         have a1 := a1.mt i0 hO n8
         have a0 := a0.ma i0 hO n8 (fun _ e => (mem_r (mem_l (e))))
         have a2 := a2.mt i0 hO n8
         have n7 := n7.ma i0 hO n8 (fun _ e => (mem_l (e)))
         have hC := hC.st i0 hO n8
         have hO := hO.grow i0 a41 (os_nodup t1) t1.fpl
         refine x_one (i := 9) (by kernel_rfl) ?_
         have hO := hO.fr1
         obtain ⟨x1, a276, x2, a42, hO, a43⟩ := os_inner (Frz.os Frz.int) n7 hO
         have h0 := h0.sub (M' := x1) x2
         have a1 := a1.sub (M' := x1) x2
         have a0 := a0.sub (M' := x1) x2
         have a2 := a2.sub (M' := x1) x2
         have t1 := t1.sub (M' := x1) x2
         have hK := hK.trans a42
         have hO := hO.fr1
         obtain ⟨a44, a45, a46, i1, a277, a47, n9, a48, M9⟩ := app_os Rw49 b8 t1 a43 hO.inM (fun g hg hq => hO.apart g hq (mem_l hg))
         have t2 := os_block t1
         refine xk_val (w' := i1) (b := true) (.slice a44 a45 a46) rfl  (y_append rfl rfl (a47 _)) rfl (fun h => nomatch h) ?_
         have hO := hO.fr1
         have hO := hO.fr1
         have h0 := h0.mt n9 hO t2
         have a3 := a3.ap n9 hO t2 (mem_r (mem_r (mem_l (List.mem_singleton.2 rfl))))
         have a1 := a1.mt n9 hO t2
         have a0 := a0.ma n9 hO t2 (fun _ e => (mem_r (mem_l (e))))
         have a2 := a2.mt n9 hO t2
         have hC := hC.st n9 hO t2
         have hO := hO.eat n9 a48 (os_nodup M9) M9.fpl
         refine x_one (i := 10) (by kernel_rfl) ?_
         obtain ⟨c1, a278, F0, a49, hO, x3⟩ := frz_own (Frz.os (Frz.rs Frz.int)) M9 hO
         have h0 := h0.sub (M' := c1) F0
         have a1 := a1.sub (M' := c1) F0
         have a0 := a0.sub (M' := c1) F0
         have a2 := a2.sub (M' := c1) F0
         have hK := hK.trans a49
         refine xk_call (b := true) rfl  Bd69 rfl (c_spec_l8Close (M := c1) (a_.1, a_.2) 2 y3514 h0 x3 hO.fut b9) rfl (fun h => nomatch h) ?_
         rintro _ o0 ⟨F1, F2, F3, rfl, i2, a50⟩
         have hK := hK.trans (show Keeps w c1 (Past c1 i1 o0) from Keeps.past hC.size)
         have h0 := h0.ext i2
         have a3 := a3.cn i2
         have a1 := a1.ext i2
         have a0 := a0.ext i2
         have a2 := a2.ext i2
         have x3 := x3.ext i2
         have hC := hC.ext i2
         have hO := hO.past i2
         have h0 := h0.sub (M' := (Past c1 i1 o0)) (fun g hg => .inl hg.1)
         have a1 := a1.sub (M' := (Past c1 i1 o0)) (fun g hg => .inl hg.1)
         have a0 := a0.sub (M' := (Past c1 i1 o0)) (fun g hg => .inl hg.1)
         have a2 := a2.sub (M' := (Past c1 i1 o0)) (fun g hg => .inl hg.1)
         have x3 := x3.sub (M' := (Past c1 i1 o0)) (fun g hg => .inl hg.1)
         refine x_p 11 (.tuple #[(.slice F1 F2 F3), (.bool r3518.2)]) rfl (by kernel_rfl)  (fun _ => y_move rfl) (fun h => nomatch h) ?_
         refine x_p 12 (.slice F1 F2 F3) rfl (by kernel_rfl)  (fun _ => y_extract rfl (by kernel_rfl)) (fun h => nomatch h) ?_
         refine x_p 13 (.bool r3518.2) rfl (by kernel_rfl)  (fun _ => y_extract rfl (by kernel_rfl)) (fun h => nomatch h) ?_
         refine x_p 14 (.slice F1 F2 F3) rfl (by kernel_rfl)  (fun _ => y_assign rfl) (fun h => nomatch h) ?_
         refine x_p 15 (.bool r3518.2) rfl (by kernel_rfl)  (fun _ => y_assign rfl) (fun h => nomatch h) ?_
         refine x_end (by kernel_rfl) ?_
         clear hS
         have hO := hO.fr1
         have hO := hO.fr1
         exact ⟨_, (Past c1 i1 o0), F1, F3, F2, fr_ovl 96 ⟨rfl, rfl, rfl, rfl, rfl, rfl, trivial⟩, hC, hO, hK, h0, a3, a1, a0, a50⟩
       ·skip
        obtain ⟨N0, F4, a51, S7, f1, S8⟩ := new_block w4 [(.slice a9 b0 b1)] 25
        refine xk_val (w' := N0) (b := false) (.slice (some ⟨F4, 0, none⟩) 1 1) rfl  (y_bslice rfl (by rw [a51, S7]; kernel_rfl)) rfl (fun _ => hS.ext f1) ?_
        have h0 := h0.ext f1
        have a3 := a3.cn f1
        have a1 := a1.ext f1
        have a0 := a0.ext f1
        have a4 := a4.ext f1
        have a2 := a2.ext f1
        have hC := hC.ext f1
        have hO := hO.new1 f1 S7 S8.lt
        have hO := hO.perm (R := (F4 :: ((a7) ++ ([]))) ++ (b2 ++ (([a5]) ++ ([])))) (by simp)
        have a52 := hO.nd
        have g6 := os_of_box (r := (RT.os 3 (RT.int .i64))) (M := a6) (css := [[(.slice a9 b0 b1)]]) (fps := [(a7 : List Nat)]) (xs := ([r3490] : List (List Int))) S8 ⟨(os_unval a4), trivial⟩ (Nat.le_of_ble_eq_true rfl) a52
        have g6 : (RT.os 25 (RT.os 3 (RT.int .i64))).val a6 N0 (.slice (some ⟨F4, 0, none⟩) 1 1) [r3490] (F4 :: ((a7) ++ ([]))) := g6
        have hS := hS.ext f1
        refine x_one (i := 1) (by kernel_rfl) ?_
        obtain ⟨S9, N1, a53, T0, f2, T1⟩ := new_block N0 [] 25
        refine xk_val (w' := S9) (b := false) (.slice (some ⟨N1, 0, none⟩) 0 0) rfl  (y_bslice rfl (by rw [a53, T0]; kernel_rfl)) rfl (fun _ => hS.ext f2) ?_
        have h0 := h0.ext f2
        have a3 := a3.cn f2
        have a1 := a1.ext f2
        have a0 := a0.ext f2
        have a2 := a2.ext f2
        have g6 := g6.ext f2
        have hC := hC.ext f2
        have hO := hO.new1 f2 T0 T1.lt
        have N2 := os_of_box (r := (RT.os 3 (RT.int .i64))) (M := a6) (css := []) (fps := []) (xs := ([] : List (List Int))) T1 trivial (Nat.zero_le _) (List.nodup_cons.2 ⟨(fun h => nomatch h), List.nodup_nil⟩)
        have N2 : (RT.os 25 (RT.os 3 (RT.int .i64))).val a6 S9 (.slice (some ⟨N1, 0, none⟩) 0 0) [] [N1] := N2
        have hS := hS.ext f2
        refine x_one (i := 6) (by kernel_rfl) ?_
        obtain ⟨x4, a279, x5, a54, hO, T2⟩ := os_inner (Frz.os Frz.int) N2 hO
        have h0 := h0.sub (M' := x4) x5
        have a1 := a1.sub (M' := x4) x5
        have a0 := a0.sub (M' := x4) x5
        have a2 := a2.sub (M' := x4) x5
        have g6 := g6.sub (M' := x4) x5
        have hK := hK.trans a54
        obtain ⟨a55, a56, a57, a58, a280, a59, i3, a60, t3⟩ := app_rs Rw49 e4 T2 a2 hO.inM
        have o1 := os_block T2
        refine xk_val (w' := a58) (b := true) (.slice a55 a56 a57) rfl  (y_append rfl rfl (a59 _)) rfl (fun h => nomatch h) ?_
        have h0 := h0.mt i3 hO o1
        have a3 := a3.ap i3 hO o1 (mem_r (mem_r (mem_l (List.mem_singleton.2 rfl))))
        have a1 := a1.mt i3 hO o1
        have a0 := a0.ma i3 hO o1 (fun _ e => (mem_r (mem_l (e))))
        have a2 := a2.mt i3 hO o1
        have g6 := g6.ma i3 hO o1 (fun _ e => (mem_l (e)))
        have hC := hC.st i3 hO o1
        have hO := hO.grow i3 a60 (os_nodup t3) t3.fpl
        refine x_one (i := 9) (by kernel_rfl) ?_
        have hO := hO.fr1
        obtain ⟨x6, a281, x7, a61, hO, a62⟩ := os_inner (Frz.os Frz.int) g6 hO
        have h0 := h0.sub (M' := x6) x7
        have a1 := a1.sub (M' := x6) x7
        have a0 := a0.sub (M' := x6) x7
        have a2 := a2.sub (M' := x6) x7
        have t3 := t3.sub (M' := x6) x7
        have hK := hK.trans a61
        have hO := hO.fr1
        obtain ⟨a63, a64, a65, i4, a282, a66, o2, a67, N3⟩ := app_os Rw49 b8 t3 a62 hO.inM (fun g hg hq => hO.apart g hq (mem_l hg))
        have t4 := os_block t3
        refine xk_val (w' := i4) (b := true) (.slice a63 a64 a65) rfl  (y_append rfl rfl (a66 _)) rfl (fun h => nomatch h) ?_
        have hO := hO.fr1
        have hO := hO.fr1
        have h0 := h0.mt o2 hO t4
        have a3 := a3.ap o2 hO t4 (mem_r (mem_r (mem_l (List.mem_singleton.2 rfl))))
        have a1 := a1.mt o2 hO t4
        have a0 := a0.ma o2 hO t4 (fun _ e => (mem_r (mem_l (e))))
        have a2 := a2.mt o2 hO t4
        have hC := hC.st o2 hO t4
        have hO := hO.eat o2 a67 (os_nodup N3) N3.fpl
        refine x_one (i := 10) (by kernel_rfl) ?_
        obtain ⟨c2, a283, F5, a68, hO, x8⟩ := frz_own (Frz.os (Frz.rs Frz.int)) N3 hO
        have h0 := h0.sub (M' := c2) F5
        have a1 := a1.sub (M' := c2) F5
        have a0 := a0.sub (M' := c2) F5
        have a2 := a2.sub (M' := c2) F5
        have hK := hK.trans a68
        refine xk_call (b := true) rfl  Bd69 rfl (c_spec_l8Close (M := c2) (a_.1, a_.2) 2 y3514 h0 x8 hO.fut b9) rfl (fun h => nomatch h) ?_
        rintro _ o3 ⟨F6, F7, F8, rfl, i5, a69⟩
        have hK := hK.trans (show Keeps w c2 (Past c2 i4 o3) from Keeps.past hC.size)
        have h0 := h0.ext i5
        have a3 := a3.cn i5
        have a1 := a1.ext i5
        have a0 := a0.ext i5
        have a2 := a2.ext i5
        have x8 := x8.ext i5
        have hC := hC.ext i5
        have hO := hO.past i5
        have h0 := h0.sub (M' := (Past c2 i4 o3)) (fun g hg => .inl hg.1)
        have a1 := a1.sub (M' := (Past c2 i4 o3)) (fun g hg => .inl hg.1)
        have a0 := a0.sub (M' := (Past c2 i4 o3)) (fun g hg => .inl hg.1)
        have a2 := a2.sub (M' := (Past c2 i4 o3)) (fun g hg => .inl hg.1)
        have x8 := x8.sub (M' := (Past c2 i4 o3)) (fun g hg => .inl hg.1)
        refine x_p 11 (.tuple #[(.slice F6 F7 F8), (.bool r3518.2)]) rfl (by kernel_rfl)  (fun _ => y_move rfl) (fun h => nomatch h) ?_
        refine x_p 12 (.slice F6 F7 F8) rfl (by kernel_rfl)  (fun _ => y_extract rfl (by kernel_rfl)) (fun h => nomatch h) ?_
        refine x_p 13 (.bool r3518.2) rfl (by kernel_rfl)  (fun _ => y_extract rfl (by kernel_rfl)) (fun h => nomatch h) ?_
        refine x_p 14 (.slice F6 F7 F8) rfl (by kernel_rfl)  (fun _ => y_assign rfl) (fun h => nomatch h) ?_
        refine x_p 15 (.bool r3518.2) rfl (by kernel_rfl)  (fun _ => y_assign rfl) (fun h => nomatch h) ?_
        refine x_end (by kernel_rfl) ?_
        clear hS
        have hO := hO.fr1
        have hO := hO.fr1
        exact ⟨_, (Past c2 i4 o3), F6, F8, F7, fr_ovl 96 ⟨rfl, rfl, rfl, rfl, rfl, rfl, trivial⟩, hC, hO, hK, h0, a3, a1, a0, a69⟩
      ·skip
       obtain ⟨F9, x9, a70, T3, f3, T4⟩ := new_block w4 [] 25
       refine xk_val (w' := F9) (b := false) (.slice (some ⟨x9, 0, none⟩) 0 0) rfl  (y_bslice rfl (by rw [a70, T3]; kernel_rfl)) rfl (fun _ => hS.ext f3) ?_
       have h0 := h0.ext f3
       have a3 := a3.cn f3
       have a1 := a1.ext f3
       have a0 := a0.ext f3
       have a4 := a4.ext f3
       have a2 := a2.ext f3
       have hC := hC.ext f3
       have hO := hO.new1 f3 T3 T4.lt
       have e6 := os_of_box (r := (RT.os 3 (RT.int .i64))) (M := a6) (css := []) (fps := []) (xs := ([] : List (List Int))) T4 trivial (Nat.zero_le _) (List.nodup_cons.2 ⟨(fun h => nomatch h), List.nodup_nil⟩)
       have e6 : (RT.os 25 (RT.os 3 (RT.int .i64))).val a6 F9 (.slice (some ⟨x9, 0, none⟩) 0 0) [] [x9] := e6
       have hS := hS.ext f3
       refine x_many [0, 6, 8] (by kernel_rfl) (fun h => nomatch h) (all3 ?_ ?_ ?_)
       ·skip
        refine xk_val (b := false) (.agg #[(.int .i64 a_.1), (.slice pa0 pn0 pc0)]) rfl  (y_load rfl ((box_load Ag34 Sz34 a3 [] [(.int .i64 a_.1), (.slice pa0 pn0 pc0)] [] rfl rfl (fun h => nomatch h)) _ (Chg.refl _ _))) rfl (fun _ => hS) ?_
        refine x_two (i := 6) (j := 8) (by kernel_rfl) ?_ ?_
        ·skip
         obtain ⟨o4, a284, y0, a71, hO, T5⟩ := os_inner (Frz.os Frz.int) e6 hO
         have h0 := h0.sub (M' := o4) y0
         have a1 := a1.sub (M' := o4) y0
         have a0 := a0.sub (M' := o4) y0
         have a4 := a4.sub (M' := o4) y0
         have a2 := a2.sub (M' := o4) y0
         have hK := hK.trans a71
         obtain ⟨a72, a73, a74, T6, a75, a76, i6, a77, i7⟩ := app_rs Rw49 e4 T5 a2 hO.inM
         have o5 := os_block T5
         refine xk_val (w' := T6) (b := true) (.slice a72 a73 a74) rfl  (y_append rfl rfl (a76 _)) rfl (fun h => nomatch h) ?_
         have h0 := h0.mt i6 hO o5
         have a3 := a3.ap i6 hO o5 (mem_r (mem_r (mem_l (List.mem_singleton.2 rfl))))
         have a1 := a1.mt i6 hO o5
         have a0 := a0.ma i6 hO o5 (fun _ e => (mem_r (mem_l (e))))
         have a4 := a4.ma i6 hO o5 (fun _ e => (mem_l (e)))
         have a2 := a2.mt i6 hO o5
         have hC := hC.st i6 hO o5
         have hO := hO.grow i6 a77 (os_nodup i7) i7.fpl
         refine x_one (i := 8) (by kernel_rfl) ?_
         obtain ⟨T7, G0, a78, T8, g7, T9⟩ := new_block T6 [(.slice a9 b0 b1)] 25
         refine xk_val (w' := T7) (b := true) (.slice (some ⟨G0, 0, none⟩) 1 1) rfl  (y_bslice rfl (by rw [a78, T8]; kernel_rfl)) rfl (fun h => nomatch h) ?_
         have h0 := h0.ext g7
         have a3 := a3.cn g7
         have a1 := a1.ext g7
         have a0 := a0.ext g7
         have a4 := a4.ext g7
         have a2 := a2.ext g7
         have i7 := i7.ext g7
         have hC := hC.ext g7
         have hO := hO.fr1
         have hO := hO.new1 g7 T8 T9.lt
         have hO := hO.perm (R := (G0 :: ((a7) ++ ([]))) ++ (a75 ++ (b2 ++ (([a5]) ++ ([]))))) (by simp)
         have a79 := hO.nd
         have N4 := os_of_box (r := (RT.os 3 (RT.int .i64))) (M := o4) (css := [[(.slice a9 b0 b1)]]) (fps := [(a7 : List Nat)]) (xs := ([r3490] : List (List Int))) T9 ⟨(os_unval a4), trivial⟩ (Nat.le_of_ble_eq_true rfl) a79
         have N4 : (RT.os 25 (RT.os 3 (RT.int .i64))).val o4 T7 (.slice (some ⟨G0, 0, none⟩) 1 1) [r3490] (G0 :: ((a7) ++ ([]))) := N4
         refine x_one (i := 9) (by kernel_rfl) ?_
         obtain ⟨y1, a285, y2, a80, hO, a81⟩ := os_inner (Frz.os Frz.int) N4 hO
         have h0 := h0.sub (M' := y1) y2
         have a1 := a1.sub (M' := y1) y2
         have a0 := a0.sub (M' := y1) y2
         have a2 := a2.sub (M' := y1) y2
         have i7 := i7.sub (M' := y1) y2
         have hK := hK.trans a80
         have hO := hO.fr1
         obtain ⟨a82, a83, a84, i9, a286, a85, o6, a86, N5⟩ := app_os Rw49 b8 i7 a81 hO.inM (fun g hg hq => hO.apart g hq (mem_l hg))
         have t5 := os_block i7
         refine xk_val (w' := i9) (b := true) (.slice a82 a83 a84) rfl  (y_append rfl rfl (a85 _)) rfl (fun h => nomatch h) ?_
         have hO := hO.fr1
         have hO := hO.fr1
         have h0 := h0.mt o6 hO t5
         have a3 := a3.ap o6 hO t5 (mem_r (mem_r (mem_l (List.mem_singleton.2 rfl))))
         have a1 := a1.mt o6 hO t5
         have a0 := a0.ma o6 hO t5 (fun _ e => (mem_r (mem_l (e))))
         have a2 := a2.mt o6 hO t5
         have hC := hC.st o6 hO t5
         have hO := hO.eat o6 a86 (os_nodup N5) N5.fpl
         refine x_one (i := 10) (by kernel_rfl) ?_
         obtain ⟨c3, a287, G1, a87, hO, y3⟩ := frz_own (Frz.os (Frz.rs Frz.int)) N5 hO
         have h0 := h0.sub (M' := c3) G1
         have a1 := a1.sub (M' := c3) G1
         have a0 := a0.sub (M' := c3) G1
         have a2 := a2.sub (M' := c3) G1
         have hK := hK.trans a87
         refine xk_call (b := true) rfl  Bd69 rfl (c_spec_l8Close (M := c3) (a_.1, a_.2) 2 y3514 h0 y3 hO.fut b9) rfl (fun h => nomatch h) ?_
         rintro _ o7 ⟨G2, G3, G4, rfl, j0, a88⟩
         have hK := hK.trans (show Keeps w c3 (Past c3 i9 o7) from Keeps.past hC.size)
         have h0 := h0.ext j0
         have a3 := a3.cn j0
         have a1 := a1.ext j0
         have a0 := a0.ext j0
         have a2 := a2.ext j0
         have y3 := y3.ext j0
         have hC := hC.ext j0
         have hO := hO.past j0
         have h0 := h0.sub (M' := (Past c3 i9 o7)) (fun g hg => .inl hg.1)
         have a1 := a1.sub (M' := (Past c3 i9 o7)) (fun g hg => .inl hg.1)
         have a0 := a0.sub (M' := (Past c3 i9 o7)) (fun g hg => .inl hg.1)
         have a2 := a2.sub (M' := (Past c3 i9 o7)) (fun g hg => .inl hg.1)
         have y3 := y3.sub (M' := (Past c3 i9 o7)) (fun g hg => .inl hg.1)
         refine x_p 11 (.tuple #[(.slice G2 G3 G4), (.bool r3518.2)]) rfl (by kernel_rfl)  (fun _ => y_move rfl) (fun h => nomatch h) ?_
         refine x_p 12 (.slice G2 G3 G4) rfl (by kernel_rfl)  (fun _ => y_extract rfl (by kernel_rfl)) (fun h => nomatch h) ?_
         refine x_p 13 (.bool r3518.2) rfl (by kernel_rfl)  (fun _ => y_extract rfl (by kernel_rfl)) (fun h => nomatch h) ?_
         refine x_p 14 (.slice G2 G3 G4) rfl (by kernel_rfl)  (fun _ => y_assign rfl) (fun h => nomatch h) ?_
         refine x_p 15 (.bool r3518.2) rfl (by kernel_rfl)  (fun _ => y_assign rfl) (fun h => nomatch h) ?_
         refine x_end (by kernel_rfl) ?_
         clear hS
         have hO := hO.fr1
         have hO := hO.fr1
         exact ⟨_, (Past c3 i9 o7), G2, G4, G3, fr_ovl 96 ⟨rfl, rfl, rfl, rfl, rfl, rfl, trivial⟩, hC, hO, hK, h0, a3, a1, a0, a88⟩
        ·skip
         obtain ⟨U0, G5, a89, U1, e7, U2⟩ := new_block F9 [(.slice a9 b0 b1)] 25
         refine xk_val (w' := U0) (b := false) (.slice (some ⟨G5, 0, none⟩) 1 1) rfl  (y_bslice rfl (by rw [a89, U1]; kernel_rfl)) rfl (fun _ => hS.ext e7) ?_
         have h0 := h0.ext e7
         have a3 := a3.cn e7
         have a1 := a1.ext e7
         have a0 := a0.ext e7
         have a4 := a4.ext e7
         have a2 := a2.ext e7
         have e6 := e6.ext e7
         have hC := hC.ext e7
         have hO := hO.fr1
         have hO := hO.new1 e7 U1 U2.lt
         have hO := hO.perm (R := (G5 :: ((a7) ++ ([]))) ++ (([x9]) ++ (b2 ++ (([a5]) ++ ([]))))) (by simp)
         have a90 := hO.nd
         have o8 := os_of_box (r := (RT.os 3 (RT.int .i64))) (M := a6) (css := [[(.slice a9 b0 b1)]]) (fps := [(a7 : List Nat)]) (xs := ([r3490] : List (List Int))) U2 ⟨(os_unval a4), trivial⟩ (Nat.le_of_ble_eq_true rfl) a90
         have o8 : (RT.os 25 (RT.os 3 (RT.int .i64))).val a6 U0 (.slice (some ⟨G5, 0, none⟩) 1 1) [r3490] (G5 :: ((a7) ++ ([]))) := o8
         have hS := hS.ext e7
         refine x_one (i := 6) (by kernel_rfl) ?_
         have hO := hO.fr1
         obtain ⟨y4, a288, y5, a91, hO, U3⟩ := os_inner (Frz.os Frz.int) e6 hO
         have h0 := h0.sub (M' := y4) y5
         have a1 := a1.sub (M' := y4) y5
         have a0 := a0.sub (M' := y4) y5
         have a2 := a2.sub (M' := y4) y5
         have o8 := o8.sub (M' := y4) y5
         have hK := hK.trans a91
         obtain ⟨a92, a93, a94, a95, a289, a96, j1, a97, t6⟩ := app_rs Rw49 e4 U3 a2 hO.inM
         have o9 := os_block U3
         refine xk_val (w' := a95) (b := true) (.slice a92 a93 a94) rfl  (y_append rfl rfl (a96 _)) rfl (fun h => nomatch h) ?_
         have h0 := h0.mt j1 hO o9
         have a3 := a3.ap j1 hO o9 (mem_r (mem_r (mem_l (List.mem_singleton.2 rfl))))
         have a1 := a1.mt j1 hO o9
         have a0 := a0.ma j1 hO o9 (fun _ e => (mem_r (mem_l (e))))
         have a2 := a2.mt j1 hO o9
         have o8 := o8.ma j1 hO o9 (fun _ e => (mem_l (e)))
         have hC := hC.st j1 hO o9
         have hO := hO.grow j1 a97 (os_nodup t6) t6.fpl
         refine x_one (i := 9) (by kernel_rfl) ?_
         have hO := hO.fr1
         obtain ⟨y6, a290, y7, a98, hO, a99⟩ := os_inner (Frz.os Frz.int) o8 hO
         have h0 := h0.sub (M' := y6) y7
         have a1 := a1.sub (M' := y6) y7
         have a0 := a0.sub (M' := y6) y7
         have a2 := a2.sub (M' := y6) y7
         have t6 := t6.sub (M' := y6) y7
         have hK := hK.trans a98
         have hO := hO.fr1
         obtain ⟨a100, a101, a102, j2, a291, a103, p0, a104, N6⟩ := app_os Rw49 b8 t6 a99 hO.inM (fun g hg hq => hO.apart g hq (mem_l hg))
         have t7 := os_block t6
         refine xk_val (w' := j2) (b := true) (.slice a100 a101 a102) rfl  (y_append rfl rfl (a103 _)) rfl (fun h => nomatch h) ?_
         have hO := hO.fr1
         have hO := hO.fr1
         have h0 := h0.mt p0 hO t7
         have a3 := a3.ap p0 hO t7 (mem_r (mem_r (mem_l (List.mem_singleton.2 rfl))))
         have a1 := a1.mt p0 hO t7
         have a0 := a0.ma p0 hO t7 (fun _ e => (mem_r (mem_l (e))))
         have a2 := a2.mt p0 hO t7
         have hC := hC.st p0 hO t7
         have hO := hO.eat p0 a104 (os_nodup N6) N6.fpl
         refine x_one (i := 10) (by kernel_rfl) ?_
         obtain ⟨c4, a292, G6, a105, hO, y8⟩ := frz_own (Frz.os (Frz.rs Frz.int)) N6 hO
         have h0 := h0.sub (M' := c4) G6
         have a1 := a1.sub (M' := c4) G6
         have a0 := a0.sub (M' := c4) G6
         have a2 := a2.sub (M' := c4) G6
         have hK := hK.trans a105
         refine xk_call (b := true) rfl  Bd69 rfl (c_spec_l8Close (M := c4) (a_.1, a_.2) 2 y3514 h0 y8 hO.fut b9) rfl (fun h => nomatch h) ?_
         rintro _ p1 ⟨G7, G8, G9, rfl, j3, a106⟩
         have hK := hK.trans (show Keeps w c4 (Past c4 j2 p1) from Keeps.past hC.size)
         have h0 := h0.ext j3
         have a3 := a3.cn j3
         have a1 := a1.ext j3
         have a0 := a0.ext j3
         have a2 := a2.ext j3
         have y8 := y8.ext j3
         have hC := hC.ext j3
         have hO := hO.past j3
         have h0 := h0.sub (M' := (Past c4 j2 p1)) (fun g hg => .inl hg.1)
         have a1 := a1.sub (M' := (Past c4 j2 p1)) (fun g hg => .inl hg.1)
         have a0 := a0.sub (M' := (Past c4 j2 p1)) (fun g hg => .inl hg.1)
         have a2 := a2.sub (M' := (Past c4 j2 p1)) (fun g hg => .inl hg.1)
         have y8 := y8.sub (M' := (Past c4 j2 p1)) (fun g hg => .inl hg.1)
         refine x_p 11 (.tuple #[(.slice G7 G8 G9), (.bool r3518.2)]) rfl (by kernel_rfl)  (fun _ => y_move rfl) (fun h => nomatch h) ?_
         refine x_p 12 (.slice G7 G8 G9) rfl (by kernel_rfl)  (fun _ => y_extract rfl (by kernel_rfl)) (fun h => nomatch h) ?_
         refine x_p 13 (.bool r3518.2) rfl (by kernel_rfl)  (fun _ => y_extract rfl (by kernel_rfl)) (fun h => nomatch h) ?_
         refine x_p 14 (.slice G7 G8 G9) rfl (by kernel_rfl)  (fun _ => y_assign rfl) (fun h => nomatch h) ?_
         refine x_p 15 (.bool r3518.2) rfl (by kernel_rfl)  (fun _ => y_assign rfl) (fun h => nomatch h) ?_
         refine x_end (by kernel_rfl) ?_
         clear hS
         have hO := hO.fr1
         have hO := hO.fr1
         exact ⟨_, (Past c4 j2 p1), G7, G9, G8, fr_ovl 96 ⟨rfl, rfl, rfl, rfl, rfl, rfl, trivial⟩, hC, hO, hK, h0, a3, a1, a0, a106⟩
       ·skip
        obtain ⟨g8, a293, y9, a107, hO, U4⟩ := os_inner (Frz.os Frz.int) e6 hO
        have h0 := h0.sub (M' := g8) y9
        have a1 := a1.sub (M' := g8) y9
        have a0 := a0.sub (M' := g8) y9
        have a4 := a4.sub (M' := g8) y9
        have a2 := a2.sub (M' := g8) y9
        have hK := hK.trans a107
        obtain ⟨a108, a109, a110, N7, U5, a111, j4, a112, b4⟩ := app_rs Rw49 e4 U4 a2 hO.inM
        have p2 := os_block U4
        refine xk_val (w' := N7) (b := true) (.slice a108 a109 a110) rfl  (y_append rfl rfl (a111 _)) rfl (fun h => nomatch h) ?_
        have h0 := h0.mt j4 hO p2
        have a3 := a3.ap j4 hO p2 (mem_r (mem_r (mem_l (List.mem_singleton.2 rfl))))
        have a1 := a1.mt j4 hO p2
        have a0 := a0.ma j4 hO p2 (fun _ e => (mem_r (mem_l (e))))
        have a4 := a4.ma j4 hO p2 (fun _ e => (mem_l (e)))
        have a2 := a2.mt j4 hO p2
        have hC := hC.st j4 hO p2
        have hO := hO.grow j4 a112 (os_nodup b4) b4.fpl
        refine x_two (i := 0) (j := 8) (by kernel_rfl) ?_ ?_
        ·skip
         refine xk_val (b := true) (.agg #[(.int .i64 a_.1), (.slice pa0 pn0 pc0)]) rfl  (y_load rfl ((box_load Ag34 Sz34 a3 [] [(.int .i64 a_.1), (.slice pa0 pn0 pc0)] [] rfl rfl (fun h => nomatch h)) _ (Chg.refl _ _))) rfl (fun h => nomatch h) ?_
         refine x_one (i := 8) (by kernel_rfl) ?_
         obtain ⟨U6, H0, a113, U7, g9, U8⟩ := new_block N7 [(.slice a9 b0 b1)] 25
         refine xk_val (w' := U6) (b := true) (.slice (some ⟨H0, 0, none⟩) 1 1) rfl  (y_bslice rfl (by rw [a113, U7]; kernel_rfl)) rfl (fun h => nomatch h) ?_
         have h0 := h0.ext g9
         have a3 := a3.cn g9
         have a1 := a1.ext g9
         have a0 := a0.ext g9
         have a4 := a4.ext g9
         have a2 := a2.ext g9
         have b4 := b4.ext g9
         have hC := hC.ext g9
         have hO := hO.fr1
         have hO := hO.new1 g9 U7 U8.lt
         have hO := hO.perm (R := (H0 :: ((a7) ++ ([]))) ++ (U5 ++ (b2 ++ (([a5]) ++ ([]))))) (by simp)
         have a114 := hO.nd
         have N8 := os_of_box (r := (RT.os 3 (RT.int .i64))) (M := g8) (css := [[(.slice a9 b0 b1)]]) (fps := [(a7 : List Nat)]) (xs := ([r3490] : List (List Int))) U8 ⟨(os_unval a4), trivial⟩ (Nat.le_of_ble_eq_true rfl) a114
         have N8 : (RT.os 25 (RT.os 3 (RT.int .i64))).val g8 U6 (.slice (some ⟨H0, 0, none⟩) 1 1) [r3490] (H0 :: ((a7) ++ ([]))) := N8
         refine x_one (i := 9) (by kernel_rfl) ?_
         obtain ⟨z0, a294, z1, a115, hO, a116⟩ := os_inner (Frz.os Frz.int) N8 hO
         have h0 := h0.sub (M' := z0) z1
         have a1 := a1.sub (M' := z0) z1
         have a0 := a0.sub (M' := z0) z1
         have a2 := a2.sub (M' := z0) z1
         have b4 := b4.sub (M' := z0) z1
         have hK := hK.trans a115
         have hO := hO.fr1
         obtain ⟨a117, a118, a119, j5, a295, a120, p3, a121, N9⟩ := app_os Rw49 b8 b4 a116 hO.inM (fun g hg hq => hO.apart g hq (mem_l hg))
         have t8 := os_block b4
         refine xk_val (w' := j5) (b := true) (.slice a117 a118 a119) rfl  (y_append rfl rfl (a120 _)) rfl (fun h => nomatch h) ?_
         have hO := hO.fr1
         have hO := hO.fr1
         have h0 := h0.mt p3 hO t8
         have a3 := a3.ap p3 hO t8 (mem_r (mem_r (mem_l (List.mem_singleton.2 rfl))))
         have a1 := a1.mt p3 hO t8
         have a0 := a0.ma p3 hO t8 (fun _ e => (mem_r (mem_l (e))))
         have a2 := a2.mt p3 hO t8
         have hC := hC.st p3 hO t8
         have hO := hO.eat p3 a121 (os_nodup N9) N9.fpl
         refine x_one (i := 10) (by kernel_rfl) ?_
         obtain ⟨c5, a296, H1, a122, hO, z2⟩ := frz_own (Frz.os (Frz.rs Frz.int)) N9 hO
         have h0 := h0.sub (M' := c5) H1
         have a1 := a1.sub (M' := c5) H1
         have a0 := a0.sub (M' := c5) H1
         have a2 := a2.sub (M' := c5) H1
         have hK := hK.trans a122
         refine xk_call (b := true) rfl  Bd69 rfl (c_spec_l8Close (M := c5) (a_.1, a_.2) 2 y3514 h0 z2 hO.fut b9) rfl (fun h => nomatch h) ?_
         rintro _ p4 ⟨H2, H3, H4, rfl, j6, a123⟩
         have hK := hK.trans (show Keeps w c5 (Past c5 j5 p4) from Keeps.past hC.size)
         have h0 := h0.ext j6
         have a3 := a3.cn j6
         have a1 := a1.ext j6
         have a0 := a0.ext j6
         have a2 := a2.ext j6
         have z2 := z2.ext j6
         have hC := hC.ext j6
         have hO := hO.past j6
         have h0 := h0.sub (M' := (Past c5 j5 p4)) (fun g hg => .inl hg.1)
         have a1 := a1.sub (M' := (Past c5 j5 p4)) (fun g hg => .inl hg.1)
         have a0 := a0.sub (M' := (Past c5 j5 p4)) (fun g hg => .inl hg.1)
         have a2 := a2.sub (M' := (Past c5 j5 p4)) (fun g hg => .inl hg.1)
         have z2 := z2.sub (M' := (Past c5 j5 p4)) (fun g hg => .inl hg.1)
         refine x_p 11 (.tuple #[(.slice H2 H3 H4), (.bool r3518.2)]) rfl (by kernel_rfl)  (fun _ => y_move rfl) (fun h => nomatch h) ?_
         refine x_p 12 (.slice H2 H3 H4) rfl (by kernel_rfl)  (fun _ => y_extract rfl (by kernel_rfl)) (fun h => nomatch h) ?_
         refine x_p 13 (.bool r3518.2) rfl (by kernel_rfl)  (fun _ => y_extract rfl (by kernel_rfl)) (fun h => nomatch h) ?_
         refine x_p 14 (.slice H2 H3 H4) rfl (by kernel_rfl)  (fun _ => y_assign rfl) (fun h => nomatch h) ?_
         refine x_p 15 (.bool r3518.2) rfl (by kernel_rfl)  (fun _ => y_assign rfl) (fun h => nomatch h) ?_
         refine x_end (by kernel_rfl) ?_
         clear hS
         have hO := hO.fr1
         have hO := hO.fr1
         exact ⟨_, (Past c5 j5 p4), H2, H4, H3, fr_ovl 96 ⟨rfl, rfl, rfl, rfl, rfl, rfl, trivial⟩, hC, hO, hK, h0, a3, a1, a0, a123⟩
        ·skip
         obtain ⟨U9, H5, a124, V0, h1, V1⟩ := new_block N7 [(.slice a9 b0 b1)] 25
         refine xk_val (w' := U9) (b := true) (.slice (some ⟨H5, 0, none⟩) 1 1) rfl  (y_bslice rfl (by rw [a124, V0]; kernel_rfl)) rfl (fun h => nomatch h) ?_
         have h0 := h0.ext h1
         have a3 := a3.cn h1
         have a1 := a1.ext h1
         have a0 := a0.ext h1
         have a4 := a4.ext h1
         have a2 := a2.ext h1
         have b4 := b4.ext h1
         have hC := hC.ext h1
         have hO := hO.fr1
         have hO := hO.new1 h1 V0 V1.lt
         have hO := hO.perm (R := (H5 :: ((a7) ++ ([]))) ++ (U5 ++ (b2 ++ (([a5]) ++ ([]))))) (by simp)
         have a125 := hO.nd
         have H6 := os_of_box (r := (RT.os 3 (RT.int .i64))) (M := g8) (css := [[(.slice a9 b0 b1)]]) (fps := [(a7 : List Nat)]) (xs := ([r3490] : List (List Int))) V1 ⟨(os_unval a4), trivial⟩ (Nat.le_of_ble_eq_true rfl) a125
         have H6 : (RT.os 25 (RT.os 3 (RT.int .i64))).val g8 U9 (.slice (some ⟨H5, 0, none⟩) 1 1) [r3490] (H5 :: ((a7) ++ ([]))) := H6
         refine x_two (i := 0) (j := 9) (by kernel_rfl) ?_ ?_
         ·skip
          refine xk_val (b := true) (.agg #[(.int .i64 a_.1), (.slice pa0 pn0 pc0)]) rfl  (y_load rfl ((box_load Ag34 Sz34 a3 [] [(.int .i64 a_.1), (.slice pa0 pn0 pc0)] [] rfl rfl (fun h => nomatch h)) _ (Chg.refl _ _))) rfl (fun h => nomatch h) ?_
          refine x_one (i := 9) (by kernel_rfl) ?_
          obtain ⟨z3, a297, z4, a126, hO, a127⟩ := os_inner (Frz.os Frz.int) H6 hO
          have h0 := h0.sub (M' := z3) z4
          have a1 := a1.sub (M' := z3) z4
          have a0 := a0.sub (M' := z3) z4
          have a2 := a2.sub (M' := z3) z4
          have b4 := b4.sub (M' := z3) z4
          have hK := hK.trans a126
          have hO := hO.fr1
          obtain ⟨a128, a129, a130, j7, a298, a131, p5, a132, O0⟩ := app_os Rw49 b8 b4 a127 hO.inM (fun g hg hq => hO.apart g hq (mem_l hg))
          have t9 := os_block b4
          refine xk_val (w' := j7) (b := true) (.slice a128 a129 a130) rfl  (y_append rfl rfl (a131 _)) rfl (fun h => nomatch h) ?_
          have hO := hO.fr1
          have hO := hO.fr1
          have h0 := h0.mt p5 hO t9
          have a3 := a3.ap p5 hO t9 (mem_r (mem_r (mem_l (List.mem_singleton.2 rfl))))
          have a1 := a1.mt p5 hO t9
          have a0 := a0.ma p5 hO t9 (fun _ e => (mem_r (mem_l (e))))
          have a2 := a2.mt p5 hO t9
          have hC := hC.st p5 hO t9
          have hO := hO.eat p5 a132 (os_nodup O0) O0.fpl
          refine x_one (i := 10) (by kernel_rfl) ?_
          obtain ⟨c6, a299, H7, a133, hO, z5⟩ := frz_own (Frz.os (Frz.rs Frz.int)) O0 hO
          have h0 := h0.sub (M' := c6) H7
          have a1 := a1.sub (M' := c6) H7
          have a0 := a0.sub (M' := c6) H7
          have a2 := a2.sub (M' := c6) H7
          have hK := hK.trans a133
          refine xk_call (b := true) rfl  Bd69 rfl (c_spec_l8Close (M := c6) (a_.1, a_.2) 2 y3514 h0 z5 hO.fut b9) rfl (fun h => nomatch h) ?_
          rintro _ p6 ⟨H8, H9, I0, rfl, j8, a134⟩
          have hK := hK.trans (show Keeps w c6 (Past c6 j7 p6) from Keeps.past hC.size)
          have h0 := h0.ext j8
          have a3 := a3.cn j8
          have a1 := a1.ext j8
          have a0 := a0.ext j8
          have a2 := a2.ext j8
          have z5 := z5.ext j8
          have hC := hC.ext j8
          have hO := hO.past j8
          have h0 := h0.sub (M' := (Past c6 j7 p6)) (fun g hg => .inl hg.1)
          have a1 := a1.sub (M' := (Past c6 j7 p6)) (fun g hg => .inl hg.1)
          have a0 := a0.sub (M' := (Past c6 j7 p6)) (fun g hg => .inl hg.1)
          have a2 := a2.sub (M' := (Past c6 j7 p6)) (fun g hg => .inl hg.1)
          have z5 := z5.sub (M' := (Past c6 j7 p6)) (fun g hg => .inl hg.1)
          refine x_p 11 (.tuple #[(.slice H8 H9 I0), (.bool r3518.2)]) rfl (by kernel_rfl)  (fun _ => y_move rfl) (fun h => nomatch h) ?_
          refine x_p 12 (.slice H8 H9 I0) rfl (by kernel_rfl)  (fun _ => y_extract rfl (by kernel_rfl)) (fun h => nomatch h) ?_
          refine x_p 13 (.bool r3518.2) rfl (by kernel_rfl)  (fun _ => y_extract rfl (by kernel_rfl)) (fun h => nomatch h) ?_
          refine x_p 14 (.slice H8 H9 I0) rfl (by kernel_rfl)  (fun _ => y_assign rfl) (fun h => nomatch h) ?_
          refine x_p 15 (.bool r3518.2) rfl (by kernel_rfl)  (fun _ => y_assign rfl) (fun h => nomatch h) ?_
          refine x_end (by kernel_rfl) ?_
          clear hS
          have hO := hO.fr1
          have hO := hO.fr1
          exact ⟨_, (Past c6 j7 p6), H8, I0, H9, fr_ovl 96 ⟨rfl, rfl, rfl, rfl, rfl, rfl, trivial⟩, hC, hO, hK, h0, a3, a1, a0, a134⟩
         ·skip
          obtain ⟨z6, a300, z7, a135, hO, a136⟩ := os_inner (Frz.os Frz.int) H6 hO
          have h0 := h0.sub (M' := z6) z7
          have a1 := a1.sub (M' := z6) z7
          have a0 := a0.sub (M' := z6) z7
          have a2 := a2.sub (M' := z6) z7
          have b4 := b4.sub (M' := z6) z7
          have hK := hK.trans a135
          have hO := hO.fr1
          obtain ⟨a137, a138, a139, j9, a301, a140, p7, a141, O1⟩ := app_os Rw49 b8 b4 a136 hO.inM (fun g hg hq => hO.apart g hq (mem_l hg))
          have u0 := os_block b4
          refine xk_val (w' := j9) (b := true) (.slice a137 a138 a139) rfl  (y_append rfl rfl (a140 _)) rfl (fun h => nomatch h) ?_
          have hO := hO.fr1
          have hO := hO.fr1
          have h0 := h0.mt p7 hO u0
          have a3 := a3.ap p7 hO u0 (mem_r (mem_r (mem_l (List.mem_singleton.2 rfl))))
          have a1 := a1.mt p7 hO u0
          have a0 := a0.ma p7 hO u0 (fun _ e => (mem_r (mem_l (e))))
          have a2 := a2.mt p7 hO u0
          have hC := hC.st p7 hO u0
          have hO := hO.eat p7 a141 (os_nodup O1) O1.fpl
          refine x_one (i := 0) (by kernel_rfl) ?_
          refine xk_val (b := true) (.agg #[(.int .i64 a_.1), (.slice pa0 pn0 pc0)]) rfl  (y_load rfl ((box_load Ag34 Sz34 a3 [] [(.int .i64 a_.1), (.slice pa0 pn0 pc0)] [] rfl rfl (fun h => nomatch h)) _ (Chg.refl _ _))) rfl (fun h => nomatch h) ?_
          refine x_one (i := 10) (by kernel_rfl) ?_
          obtain ⟨c7, a302, I1, a142, hO, z8⟩ := frz_own (Frz.os (Frz.rs Frz.int)) O1 hO
          have h0 := h0.sub (M' := c7) I1
          have a1 := a1.sub (M' := c7) I1
          have a0 := a0.sub (M' := c7) I1
          have a2 := a2.sub (M' := c7) I1
          have hK := hK.trans a142
          refine xk_call (b := true) rfl  Bd69 rfl (c_spec_l8Close (M := c7) (a_.1, a_.2) 2 y3514 h0 z8 hO.fut b9) rfl (fun h => nomatch h) ?_
          rintro _ p8 ⟨I2, I3, I4, rfl, k0, a143⟩
          have hK := hK.trans (show Keeps w c7 (Past c7 j9 p8) from Keeps.past hC.size)
          have h0 := h0.ext k0
          have a3 := a3.cn k0
          have a1 := a1.ext k0
          have a0 := a0.ext k0
          have a2 := a2.ext k0
          have z8 := z8.ext k0
          have hC := hC.ext k0
          have hO := hO.past k0
          have h0 := h0.sub (M' := (Past c7 j9 p8)) (fun g hg => .inl hg.1)
          have a1 := a1.sub (M' := (Past c7 j9 p8)) (fun g hg => .inl hg.1)
          have a0 := a0.sub (M' := (Past c7 j9 p8)) (fun g hg => .inl hg.1)
          have a2 := a2.sub (M' := (Past c7 j9 p8)) (fun g hg => .inl hg.1)
          have z8 := z8.sub (M' := (Past c7 j9 p8)) (fun g hg => .inl hg.1)
          refine x_p 11 (.tuple #[(.slice I2 I3 I4), (.bool r3518.2)]) rfl (by kernel_rfl)  (fun _ => y_move rfl) (fun h => nomatch h) ?_
          refine x_p 12 (.slice I2 I3 I4) rfl (by kernel_rfl)  (fun _ => y_extract rfl (by kernel_rfl)) (fun h => nomatch h) ?_
          refine x_p 13 (.bool r3518.2) rfl (by kernel_rfl)  (fun _ => y_extract rfl (by kernel_rfl)) (fun h => nomatch h) ?_
          refine x_p 14 (.slice I2 I3 I4) rfl (by kernel_rfl)  (fun _ => y_assign rfl) (fun h => nomatch h) ?_
          refine x_p 15 (.bool r3518.2) rfl (by kernel_rfl)  (fun _ => y_assign rfl) (fun h => nomatch h) ?_
          refine x_end (by kernel_rfl) ?_
          clear hS
          have hO := hO.fr1
          have hO := hO.fr1
          exact ⟨_, (Past c7 j9 p8), I2, I4, I3, fr_ovl 96 ⟨rfl, rfl, rfl, rfl, rfl, rfl, trivial⟩, hC, hO, hK, h0, a3, a1, a0, a143⟩
       ·skip
        obtain ⟨V2, I5, a144, V3, e8, V4⟩ := new_block F9 [(.slice a9 b0 b1)] 25
        refine xk_val (w' := V2) (b := false) (.slice (some ⟨I5, 0, none⟩) 1 1) rfl  (y_bslice rfl (by rw [a144, V3]; kernel_rfl)) rfl (fun _ => hS.ext e8) ?_
        have h0 := h0.ext e8
        have a3 := a3.cn e8
        have a1 := a1.ext e8
        have a0 := a0.ext e8
        have a4 := a4.ext e8
        have a2 := a2.ext e8
        have e6 := e6.ext e8
        have hC := hC.ext e8
        have hO := hO.fr1
        have hO := hO.new1 e8 V3 V4.lt
        have hO := hO.perm (R := (I5 :: ((a7) ++ ([]))) ++ (([x9]) ++ (b2 ++ (([a5]) ++ ([]))))) (by simp)
        have a145 := hO.nd
        have c8 := os_of_box (r := (RT.os 3 (RT.int .i64))) (M := a6) (css := [[(.slice a9 b0 b1)]]) (fps := [(a7 : List Nat)]) (xs := ([r3490] : List (List Int))) V4 ⟨(os_unval a4), trivial⟩ (Nat.le_of_ble_eq_true rfl) a145
        have c8 : (RT.os 25 (RT.os 3 (RT.int .i64))).val a6 V2 (.slice (some ⟨I5, 0, none⟩) 1 1) [r3490] (I5 :: ((a7) ++ ([]))) := c8
        have hS := hS.ext e8
        refine x_two (i := 0) (j := 6) (by kernel_rfl) ?_ ?_
        ·skip
         refine xk_val (b := false) (.agg #[(.int .i64 a_.1), (.slice pa0 pn0 pc0)]) rfl  (y_load rfl ((box_load Ag34 Sz34 a3 [] [(.int .i64 a_.1), (.slice pa0 pn0 pc0)] [] rfl rfl (fun h => nomatch h)) _ (Chg.refl _ _))) rfl (fun _ => hS) ?_
         refine x_one (i := 6) (by kernel_rfl) ?_
         have hO := hO.fr1
         obtain ⟨z9, a303, A0, a146, hO, V5⟩ := os_inner (Frz.os Frz.int) e6 hO
         have h0 := h0.sub (M' := z9) A0
         have a1 := a1.sub (M' := z9) A0
         have a0 := a0.sub (M' := z9) A0
         have a2 := a2.sub (M' := z9) A0
         have c8 := c8.sub (M' := z9) A0
         have hK := hK.trans a146
         obtain ⟨a147, a148, a149, a150, a304, a151, k1, a152, u1⟩ := app_rs Rw49 e4 V5 a2 hO.inM
         have p9 := os_block V5
         refine xk_val (w' := a150) (b := true) (.slice a147 a148 a149) rfl  (y_append rfl rfl (a151 _)) rfl (fun h => nomatch h) ?_
         have h0 := h0.mt k1 hO p9
         have a3 := a3.ap k1 hO p9 (mem_r (mem_r (mem_l (List.mem_singleton.2 rfl))))
         have a1 := a1.mt k1 hO p9
         have a0 := a0.ma k1 hO p9 (fun _ e => (mem_r (mem_l (e))))
         have a2 := a2.mt k1 hO p9
         have c8 := c8.ma k1 hO p9 (fun _ e => (mem_l (e)))
         have hC := hC.st k1 hO p9
         have hO := hO.grow k1 a152 (os_nodup u1) u1.fpl
         refine x_one (i := 9) (by kernel_rfl) ?_
         have hO := hO.fr1
         obtain ⟨A1, a305, A2, a153, hO, a154⟩ := os_inner (Frz.os Frz.int) c8 hO
         have h0 := h0.sub (M' := A1) A2
         have a1 := a1.sub (M' := A1) A2
         have a0 := a0.sub (M' := A1) A2
         have a2 := a2.sub (M' := A1) A2
         have u1 := u1.sub (M' := A1) A2
         have hK := hK.trans a153
         have hO := hO.fr1
         obtain ⟨a155, a156, a157, k2, a306, a158, q0, a159, O2⟩ := app_os Rw49 b8 u1 a154 hO.inM (fun g hg hq => hO.apart g hq (mem_l hg))
         have u2 := os_block u1
         refine xk_val (w' := k2) (b := true) (.slice a155 a156 a157) rfl  (y_append rfl rfl (a158 _)) rfl (fun h => nomatch h) ?_
         have hO := hO.fr1
         have hO := hO.fr1
         have h0 := h0.mt q0 hO u2
         have a3 := a3.ap q0 hO u2 (mem_r (mem_r (mem_l (List.mem_singleton.2 rfl))))
         have a1 := a1.mt q0 hO u2
         have a0 := a0.ma q0 hO u2 (fun _ e => (mem_r (mem_l (e))))
         have a2 := a2.mt q0 hO u2
         have hC := hC.st q0 hO u2
         have hO := hO.eat q0 a159 (os_nodup O2) O2.fpl
         refine x_one (i := 10) (by kernel_rfl) ?_
         obtain ⟨c9, a307, I6, a160, hO, A3⟩ := frz_own (Frz.os (Frz.rs Frz.int)) O2 hO
         have h0 := h0.sub (M' := c9) I6
         have a1 := a1.sub (M' := c9) I6
         have a0 := a0.sub (M' := c9) I6
         have a2 := a2.sub (M' := c9) I6
         have hK := hK.trans a160
         refine xk_call (b := true) rfl  Bd69 rfl (c_spec_l8Close (M := c9) (a_.1, a_.2) 2 y3514 h0 A3 hO.fut b9) rfl (fun h => nomatch h) ?_
         rintro _ q1 ⟨I7, I8, I9, rfl, k3, a161⟩
         have hK := hK.trans (show Keeps w c9 (Past c9 k2 q1) from Keeps.past hC.size)
         have h0 := h0.ext k3
         have a3 := a3.cn k3
         have a1 := a1.ext k3
         have a0 := a0.ext k3
         have a2 := a2.ext k3
         have A3 := A3.ext k3
         have hC := hC.ext k3
         have hO := hO.past k3
         have h0 := h0.sub (M' := (Past c9 k2 q1)) (fun g hg => .inl hg.1)
         have a1 := a1.sub (M' := (Past c9 k2 q1)) (fun g hg => .inl hg.1)
         have a0 := a0.sub (M' := (Past c9 k2 q1)) (fun g hg => .inl hg.1)
         have a2 := a2.sub (M' := (Past c9 k2 q1)) (fun g hg => .inl hg.1)
         have A3 := A3.sub (M' := (Past c9 k2 q1)) (fun g hg => .inl hg.1)
         refine x_p 11 (.tuple #[(.slice I7 I8 I9), (.bool r3518.2)]) rfl (by kernel_rfl)  (fun _ => y_move rfl) (fun h => nomatch h) ?_
         refine x_p 12 (.slice I7 I8 I9) rfl (by kernel_rfl)  (fun _ => y_extract rfl (by kernel_rfl)) (fun h => nomatch h) ?_
         refine x_p 13 (.bool r3518.2) rfl (by kernel_rfl)  (fun _ => y_extract rfl (by kernel_rfl)) (fun h => nomatch h) ?_
         refine x_p 14 (.slice I7 I8 I9) rfl (by kernel_rfl)  (fun _ => y_assign rfl) (fun h => nomatch h) ?_
         refine x_p 15 (.bool r3518.2) rfl (by kernel_rfl)  (fun _ => y_assign rfl) (fun h => nomatch h) ?_
         refine x_end (by kernel_rfl) ?_
         clear hS
         have hO := hO.fr1
         have hO := hO.fr1
         exact ⟨_, (Past c9 k2 q1), I7, I9, I8, fr_ovl 96 ⟨rfl, rfl, rfl, rfl, rfl, rfl, trivial⟩, hC, hO, hK, h0, a3, a1, a0, a161⟩
        ·skip
         have hO := hO.fr1
         obtain ⟨A4, a308, A5, a162, hO, V6⟩ := os_inner (Frz.os Frz.int) e6 hO
         have h0 := h0.sub (M' := A4) A5
         have a1 := a1.sub (M' := A4) A5
         have a0 := a0.sub (M' := A4) A5
         have a2 := a2.sub (M' := A4) A5
         have c8 := c8.sub (M' := A4) A5
         have hK := hK.trans a162
         obtain ⟨a163, a164, a165, a166, a309, a167, k4, a168, f4⟩ := app_rs Rw49 e4 V6 a2 hO.inM
         have q2 := os_block V6
         refine xk_val (w' := a166) (b := true) (.slice a163 a164 a165) rfl  (y_append rfl rfl (a167 _)) rfl (fun h => nomatch h) ?_
         have h0 := h0.mt k4 hO q2
         have a3 := a3.ap k4 hO q2 (mem_r (mem_r (mem_l (List.mem_singleton.2 rfl))))
         have a1 := a1.mt k4 hO q2
         have a0 := a0.ma k4 hO q2 (fun _ e => (mem_r (mem_l (e))))
         have a2 := a2.mt k4 hO q2
         have c8 := c8.ma k4 hO q2 (fun _ e => (mem_l (e)))
         have hC := hC.st k4 hO q2
         have hO := hO.grow k4 a168 (os_nodup f4) f4.fpl
         refine x_two (i := 0) (j := 9) (by kernel_rfl) ?_ ?_
         ·skip
          refine xk_val (b := true) (.agg #[(.int .i64 a_.1), (.slice pa0 pn0 pc0)]) rfl  (y_load rfl ((box_load Ag34 Sz34 a3 [] [(.int .i64 a_.1), (.slice pa0 pn0 pc0)] [] rfl rfl (fun h => nomatch h)) _ (Chg.refl _ _))) rfl (fun h => nomatch h) ?_
          refine x_one (i := 9) (by kernel_rfl) ?_
          have hO := hO.fr1
          obtain ⟨A6, a310, A7, a169, hO, a170⟩ := os_inner (Frz.os Frz.int) c8 hO
          have h0 := h0.sub (M' := A6) A7
          have a1 := a1.sub (M' := A6) A7
          have a0 := a0.sub (M' := A6) A7
          have a2 := a2.sub (M' := A6) A7
          have f4 := f4.sub (M' := A6) A7
          have hK := hK.trans a169
          have hO := hO.fr1
          obtain ⟨a171, a172, a173, k5, a311, a174, q3, a175, O3⟩ := app_os Rw49 b8 f4 a170 hO.inM (fun g hg hq => hO.apart g hq (mem_l hg))
          have u3 := os_block f4
          refine xk_val (w' := k5) (b := true) (.slice a171 a172 a173) rfl  (y_append rfl rfl (a174 _)) rfl (fun h => nomatch h) ?_
          have hO := hO.fr1
          have hO := hO.fr1
          have h0 := h0.mt q3 hO u3
          have a3 := a3.ap q3 hO u3 (mem_r (mem_r (mem_l (List.mem_singleton.2 rfl))))
          have a1 := a1.mt q3 hO u3
          have a0 := a0.ma q3 hO u3 (fun _ e => (mem_r (mem_l (e))))
          have a2 := a2.mt q3 hO u3
          have hC := hC.st q3 hO u3
          have hO := hO.eat q3 a175 (os_nodup O3) O3.fpl
          refine x_one (i := 10) (by kernel_rfl) ?_
          obtain ⟨d0, a312, J0, a176, hO, A8⟩ := frz_own (Frz.os (Frz.rs Frz.int)) O3 hO
          have h0 := h0.sub (M' := d0) J0
          have a1 := a1.sub (M' := d0) J0
          have a0 := a0.sub (M' := d0) J0
          have a2 := a2.sub (M' := d0) J0
          have hK := hK.trans a176
          refine xk_call (b := true) rfl  Bd69 rfl (c_spec_l8Close (M := d0) (a_.1, a_.2) 2 y3514 h0 A8 hO.fut b9) rfl (fun h => nomatch h) ?_
          rintro _ q4 ⟨J1, J2, J3, rfl, k6, a177⟩
          have hK := hK.trans (show Keeps w d0 (Past d0 k5 q4) from Keeps.past hC.size)
          have h0 := h0.ext k6
          have a3 := a3.cn k6
          have a1 := a1.ext k6
          have a0 := a0.ext k6
          have a2 := a2.ext k6
          have A8 := A8.ext k6
          have hC := hC.ext k6
          have hO := hO.past k6
          have h0 := h0.sub (M' := (Past d0 k5 q4)) (fun g hg => .inl hg.1)
          have a1 := a1.sub (M' := (Past d0 k5 q4)) (fun g hg => .inl hg.1)
          have a0 := a0.sub (M' := (Past d0 k5 q4)) (fun g hg => .inl hg.1)
          have a2 := a2.sub (M' := (Past d0 k5 q4)) (fun g hg => .inl hg.1)
          have A8 := A8.sub (M' := (Past d0 k5 q4)) (fun g hg => .inl hg.1)
          refine x_p 11 (.tuple #[(.slice J1 J2 J3), (.bool r3518.2)]) rfl (by kernel_rfl)  (fun _ => y_move rfl) (fun h => nomatch h) ?_
          refine x_p 12 (.slice J1 J2 J3) rfl (by kernel_rfl)  (fun _ => y_extract rfl (by kernel_rfl)) (fun h => nomatch h) ?_
          refine x_p 13 (.bool r3518.2) rfl (by kernel_rfl)  (fun _ => y_extract rfl (by kernel_rfl)) (fun h => nomatch h) ?_
          refine x_p 14 (.slice J1 J2 J3) rfl (by kernel_rfl)  (fun _ => y_assign rfl) (fun h => nomatch h) ?_
          refine x_p 15 (.bool r3518.2) rfl (by kernel_rfl)  (fun _ => y_assign rfl) (fun h => nomatch h) ?_
          refine x_end (by kernel_rfl) ?_
          clear hS
          have hO := hO.fr1
          have hO := hO.fr1
          exact ⟨_, (Past d0 k5 q4), J1, J3, J2, fr_ovl 96 ⟨rfl, rfl, rfl, rfl, rfl, rfl, trivial⟩, hC, hO, hK, h0, a3, a1, a0, a177⟩
         ·skip
          have hO := hO.fr1
          obtain ⟨A9, a313, B0, a178, hO, a179⟩ := os_inner (Frz.os Frz.int) c8 hO
          have h0 := h0.sub (M' := A9) B0
          have a1 := a1.sub (M' := A9) B0
          have a0 := a0.sub (M' := A9) B0
          have a2 := a2.sub (M' := A9) B0
          have f4 := f4.sub (M' := A9) B0
          have hK := hK.trans a178
          have hO := hO.fr1
          obtain ⟨a180, a181, a182, k7, a314, a183, q5, a184, O4⟩ := app_os Rw49 b8 f4 a179 hO.inM (fun g hg hq => hO.apart g hq (mem_l hg))
          have u4 := os_block f4
          refine xk_val (w' := k7) (b := true) (.slice a180 a181 a182) rfl  (y_append rfl rfl (a183 _)) rfl (fun h => nomatch h) ?_
          have hO := hO.fr1
          have hO := hO.fr1
          have h0 := h0.mt q5 hO u4
          have a3 := a3.ap q5 hO u4 (mem_r (mem_r (mem_l (List.mem_singleton.2 rfl))))
          have a1 := a1.mt q5 hO u4
          have a0 := a0.ma q5 hO u4 (fun _ e => (mem_r (mem_l (e))))
          have a2 := a2.mt q5 hO u4
          have hC := hC.st q5 hO u4
          have hO := hO.eat q5 a184 (os_nodup O4) O4.fpl
          refine x_one (i := 0) (by kernel_rfl) ?_
          refine xk_val (b := true) (.agg #[(.int .i64 a_.1), (.slice pa0 pn0 pc0)]) rfl  (y_load rfl ((box_load Ag34 Sz34 a3 [] [(.int .i64 a_.1), (.slice pa0 pn0 pc0)] [] rfl rfl (fun h => nomatch h)) _ (Chg.refl _ _))) rfl (fun h => nomatch h) ?_
          refine x_one (i := 10) (by kernel_rfl) ?_
          obtain ⟨d1, a315, J4, a185, hO, B1⟩ := frz_own (Frz.os (Frz.rs Frz.int)) O4 hO
          have h0 := h0.sub (M' := d1) J4
          have a1 := a1.sub (M' := d1) J4
          have a0 := a0.sub (M' := d1) J4
          have a2 := a2.sub (M' := d1) J4
          have hK := hK.trans a185
          refine xk_call (b := true) rfl  Bd69 rfl (c_spec_l8Close (M := d1) (a_.1, a_.2) 2 y3514 h0 B1 hO.fut b9) rfl (fun h => nomatch h) ?_
          rintro _ q6 ⟨J5, J6, J7, rfl, k8, a186⟩
          have hK := hK.trans (show Keeps w d1 (Past d1 k7 q6) from Keeps.past hC.size)
          have h0 := h0.ext k8
          have a3 := a3.cn k8
          have a1 := a1.ext k8
          have a0 := a0.ext k8
          have a2 := a2.ext k8
          have B1 := B1.ext k8
          have hC := hC.ext k8
          have hO := hO.past k8
          have h0 := h0.sub (M' := (Past d1 k7 q6)) (fun g hg => .inl hg.1)
          have a1 := a1.sub (M' := (Past d1 k7 q6)) (fun g hg => .inl hg.1)
          have a0 := a0.sub (M' := (Past d1 k7 q6)) (fun g hg => .inl hg.1)
          have a2 := a2.sub (M' := (Past d1 k7 q6)) (fun g hg => .inl hg.1)
          have B1 := B1.sub (M' := (Past d1 k7 q6)) (fun g hg => .inl hg.1)
          refine x_p 11 (.tuple #[(.slice J5 J6 J7), (.bool r3518.2)]) rfl (by kernel_rfl)  (fun _ => y_move rfl) (fun h => nomatch h) ?_
          refine x_p 12 (.slice J5 J6 J7) rfl (by kernel_rfl)  (fun _ => y_extract rfl (by kernel_rfl)) (fun h => nomatch h) ?_
          refine x_p 13 (.bool r3518.2) rfl (by kernel_rfl)  (fun _ => y_extract rfl (by kernel_rfl)) (fun h => nomatch h) ?_
          refine x_p 14 (.slice J5 J6 J7) rfl (by kernel_rfl)  (fun _ => y_assign rfl) (fun h => nomatch h) ?_
          refine x_p 15 (.bool r3518.2) rfl (by kernel_rfl)  (fun _ => y_assign rfl) (fun h => nomatch h) ?_
          refine x_end (by kernel_rfl) ?_
          clear hS
          have hO := hO.fr1
          have hO := hO.fr1
          exact ⟨_, (Past d1 k7 q6), J5, J7, J6, fr_ovl 96 ⟨rfl, rfl, rfl, rfl, rfl, rfl, trivial⟩, hC, hO, hK, h0, a3, a1, a0, a186⟩
      ·skip
       obtain ⟨J8, J9, a187, V7, f5, V8⟩ := new_block w4 [(.slice a9 b0 b1)] 25
       refine xk_val (w' := J8) (b := false) (.slice (some ⟨J9, 0, none⟩) 1 1) rfl  (y_bslice rfl (by rw [a187, V7]; kernel_rfl)) rfl (fun _ => hS.ext f5) ?_
       have h0 := h0.ext f5
       have a3 := a3.cn f5
       have a1 := a1.ext f5
       have a0 := a0.ext f5
       have a4 := a4.ext f5
       have a2 := a2.ext f5
       have hC := hC.ext f5
       have hO := hO.new1 f5 V7 V8.lt
       have hO := hO.perm (R := (J9 :: ((a7) ++ ([]))) ++ (b2 ++ (([a5]) ++ ([])))) (by simp)
       have a188 := hO.nd
       have a8 := os_of_box (r := (RT.os 3 (RT.int .i64))) (M := a6) (css := [[(.slice a9 b0 b1)]]) (fps := [(a7 : List Nat)]) (xs := ([r3490] : List (List Int))) V8 ⟨(os_unval a4), trivial⟩ (Nat.le_of_ble_eq_true rfl) a188
       have a8 : (RT.os 25 (RT.os 3 (RT.int .i64))).val a6 J8 (.slice (some ⟨J9, 0, none⟩) 1 1) [r3490] (J9 :: ((a7) ++ ([]))) := a8
       have hS := hS.ext f5
       refine x_two (i := 0) (j := 1) (by kernel_rfl) ?_ ?_
       ·skip
        refine xk_val (b := false) (.agg #[(.int .i64 a_.1), (.slice pa0 pn0 pc0)]) rfl  (y_load rfl ((box_load Ag34 Sz34 a3 [] [(.int .i64 a_.1), (.slice pa0 pn0 pc0)] [] rfl rfl (fun h => nomatch h)) _ (Chg.refl _ _))) rfl (fun _ => hS) ?_
        refine x_one (i := 1) (by kernel_rfl) ?_
        obtain ⟨V9, O5, a189, W0, f6, W1⟩ := new_block J8 [] 25
        refine xk_val (w' := V9) (b := false) (.slice (some ⟨O5, 0, none⟩) 0 0) rfl  (y_bslice rfl (by rw [a189, W0]; kernel_rfl)) rfl (fun _ => hS.ext f6) ?_
        have h0 := h0.ext f6
        have a3 := a3.cn f6
        have a1 := a1.ext f6
        have a0 := a0.ext f6
        have a2 := a2.ext f6
        have a8 := a8.ext f6
        have hC := hC.ext f6
        have hO := hO.new1 f6 W0 W1.lt
        have O6 := os_of_box (r := (RT.os 3 (RT.int .i64))) (M := a6) (css := []) (fps := []) (xs := ([] : List (List Int))) W1 trivial (Nat.zero_le _) (List.nodup_cons.2 ⟨(fun h => nomatch h), List.nodup_nil⟩)
        have O6 : (RT.os 25 (RT.os 3 (RT.int .i64))).val a6 V9 (.slice (some ⟨O5, 0, none⟩) 0 0) [] [O5] := O6
        have hS := hS.ext f6
        refine x_one (i := 6) (by kernel_rfl) ?_
        obtain ⟨B2, a316, B3, a190, hO, W2⟩ := os_inner (Frz.os Frz.int) O6 hO
        have h0 := h0.sub (M' := B2) B3
        have a1 := a1.sub (M' := B2) B3
        have a0 := a0.sub (M' := B2) B3
        have a2 := a2.sub (M' := B2) B3
        have a8 := a8.sub (M' := B2) B3
        have hK := hK.trans a190
        obtain ⟨a191, a192, a193, a194, a317, a195, k9, a196, u5⟩ := app_rs Rw49 e4 W2 a2 hO.inM
        have q7 := os_block W2
        refine xk_val (w' := a194) (b := true) (.slice a191 a192 a193) rfl  (y_append rfl rfl (a195 _)) rfl (fun h => nomatch h) ?_
        have h0 := h0.mt k9 hO q7
        have a3 := a3.ap k9 hO q7 (mem_r (mem_r (mem_l (List.mem_singleton.2 rfl))))
        have a1 := a1.mt k9 hO q7
        have a0 := a0.ma k9 hO q7 (fun _ e => (mem_r (mem_l (e))))
        have a2 := a2.mt k9 hO q7
        have a8 := a8.ma k9 hO q7 (fun _ e => (mem_l (e)))
        have hC := hC.st k9 hO q7
        have hO := hO.grow k9 a196 (os_nodup u5) u5.fpl
        refine x_one (i := 9) (by kernel_rfl) ?_
        have hO := hO.fr1
        obtain ⟨B4, a318, B5, a197, hO, a198⟩ := os_inner (Frz.os Frz.int) a8 hO
        have h0 := h0.sub (M' := B4) B5
        have a1 := a1.sub (M' := B4) B5
        have a0 := a0.sub (M' := B4) B5
        have a2 := a2.sub (M' := B4) B5
        have u5 := u5.sub (M' := B4) B5
        have hK := hK.trans a197
        have hO := hO.fr1
        obtain ⟨a199, a200, a201, l0, a319, a202, q8, a203, O7⟩ := app_os Rw49 b8 u5 a198 hO.inM (fun g hg hq => hO.apart g hq (mem_l hg))
        have u6 := os_block u5
        refine xk_val (w' := l0) (b := true) (.slice a199 a200 a201) rfl  (y_append rfl rfl (a202 _)) rfl (fun h => nomatch h) ?_
        have hO := hO.fr1
        have hO := hO.fr1
        have h0 := h0.mt q8 hO u6
        have a3 := a3.ap q8 hO u6 (mem_r (mem_r (mem_l (List.mem_singleton.2 rfl))))
        have a1 := a1.mt q8 hO u6
        have a0 := a0.ma q8 hO u6 (fun _ e => (mem_r (mem_l (e))))
        have a2 := a2.mt q8 hO u6
        have hC := hC.st q8 hO u6
        have hO := hO.eat q8 a203 (os_nodup O7) O7.fpl
        refine x_one (i := 10) (by kernel_rfl) ?_
        obtain ⟨d2, a320, K0, a204, hO, B6⟩ := frz_own (Frz.os (Frz.rs Frz.int)) O7 hO
        have h0 := h0.sub (M' := d2) K0
        have a1 := a1.sub (M' := d2) K0
        have a0 := a0.sub (M' := d2) K0
        have a2 := a2.sub (M' := d2) K0
        have hK := hK.trans a204
        refine xk_call (b := true) rfl  Bd69 rfl (c_spec_l8Close (M := d2) (a_.1, a_.2) 2 y3514 h0 B6 hO.fut b9) rfl (fun h => nomatch h) ?_
        rintro _ q9 ⟨K1, K2, K3, rfl, l1, a205⟩
        have hK := hK.trans (show Keeps w d2 (Past d2 l0 q9) from Keeps.past hC.size)
        have h0 := h0.ext l1
        have a3 := a3.cn l1
        have a1 := a1.ext l1
        have a0 := a0.ext l1
        have a2 := a2.ext l1
        have B6 := B6.ext l1
        have hC := hC.ext l1
        have hO := hO.past l1
        have h0 := h0.sub (M' := (Past d2 l0 q9)) (fun g hg => .inl hg.1)
        have a1 := a1.sub (M' := (Past d2 l0 q9)) (fun g hg => .inl hg.1)
        have a0 := a0.sub (M' := (Past d2 l0 q9)) (fun g hg => .inl hg.1)
        have a2 := a2.sub (M' := (Past d2 l0 q9)) (fun g hg => .inl hg.1)
        have B6 := B6.sub (M' := (Past d2 l0 q9)) (fun g hg => .inl hg.1)
        refine x_p 11 (.tuple #[(.slice K1 K2 K3), (.bool r3518.2)]) rfl (by kernel_rfl)  (fun _ => y_move rfl) (fun h => nomatch h) ?_
        refine x_p 12 (.slice K1 K2 K3) rfl (by kernel_rfl)  (fun _ => y_extract rfl (by kernel_rfl)) (fun h => nomatch h) ?_
        refine x_p 13 (.bool r3518.2) rfl (by kernel_rfl)  (fun _ => y_extract rfl (by kernel_rfl)) (fun h => nomatch h) ?_
        refine x_p 14 (.slice K1 K2 K3) rfl (by kernel_rfl)  (fun _ => y_assign rfl) (fun h => nomatch h) ?_
        refine x_p 15 (.bool r3518.2) rfl (by kernel_rfl)  (fun _ => y_assign rfl) (fun h => nomatch h) ?_
        refine x_end (by kernel_rfl) ?_
        clear hS
        have hO := hO.fr1
        have hO := hO.fr1
        exact ⟨_, (Past d2 l0 q9), K1, K3, K2, fr_ovl 96 ⟨rfl, rfl, rfl, rfl, rfl, rfl, trivial⟩, hC, hO, hK, h0, a3, a1, a0, a205⟩
       ·skip
        obtain ⟨W3, O8, a206, W4, f7, W5⟩ := new_block J8 [] 25
        refine xk_val (w' := W3) (b := false) (.slice (some ⟨O8, 0, none⟩) 0 0) rfl  (y_bslice rfl (by rw [a206, W4]; kernel_rfl)) rfl (fun _ => hS.ext f7) ?_
        have h0 := h0.ext f7
        have a3 := a3.cn f7
        have a1 := a1.ext f7
        have a0 := a0.ext f7
        have a2 := a2.ext f7
        have a8 := a8.ext f7
        have hC := hC.ext f7
        have hO := hO.new1 f7 W4 W5.lt
        have K4 := os_of_box (r := (RT.os 3 (RT.int .i64))) (M := a6) (css := []) (fps := []) (xs := ([] : List (List Int))) W5 trivial (Nat.zero_le _) (List.nodup_cons.2 ⟨(fun h => nomatch h), List.nodup_nil⟩)
        have K4 : (RT.os 25 (RT.os 3 (RT.int .i64))).val a6 W3 (.slice (some ⟨O8, 0, none⟩) 0 0) [] [O8] := K4
        have hS := hS.ext f7
        refine x_two (i := 0) (j := 6) (by kernel_rfl) ?_ ?_
        ·skip
         refine xk_val (b := false) (.agg #[(.int .i64 a_.1), (.slice pa0 pn0 pc0)]) rfl  (y_load rfl ((box_load Ag34 Sz34 a3 [] [(.int .i64 a_.1), (.slice pa0 pn0 pc0)] [] rfl rfl (fun h => nomatch h)) _ (Chg.refl _ _))) rfl (fun _ => hS) ?_
         refine x_one (i := 6) (by kernel_rfl) ?_
         obtain ⟨B7, a321, B8, a207, hO, W6⟩ := os_inner (Frz.os Frz.int) K4 hO
         have h0 := h0.sub (M' := B7) B8
         have a1 := a1.sub (M' := B7) B8
         have a0 := a0.sub (M' := B7) B8
         have a2 := a2.sub (M' := B7) B8
         have a8 := a8.sub (M' := B7) B8
         have hK := hK.trans a207
         obtain ⟨a208, a209, a210, a211, a322, a212, l2, a213, u7⟩ := app_rs Rw49 e4 W6 a2 hO.inM
         have r0 := os_block W6
         refine xk_val (w' := a211) (b := true) (.slice a208 a209 a210) rfl  (y_append rfl rfl (a212 _)) rfl (fun h => nomatch h) ?_
         have h0 := h0.mt l2 hO r0
         have a3 := a3.ap l2 hO r0 (mem_r (mem_r (mem_l (List.mem_singleton.2 rfl))))
         have a1 := a1.mt l2 hO r0
         have a0 := a0.ma l2 hO r0 (fun _ e => (mem_r (mem_l (e))))
         have a2 := a2.mt l2 hO r0
         have a8 := a8.ma l2 hO r0 (fun _ e => (mem_l (e)))
         have hC := hC.st l2 hO r0
         have hO := hO.grow l2 a213 (os_nodup u7) u7.fpl
         refine x_one (i := 9) (by kernel_rfl) ?_
         have hO := hO.fr1
         obtain ⟨B9, a323, C0, a214, hO, a215⟩ := os_inner (Frz.os Frz.int) a8 hO
         have h0 := h0.sub (M' := B9) C0
         have a1 := a1.sub (M' := B9) C0
         have a0 := a0.sub (M' := B9) C0
         have a2 := a2.sub (M' := B9) C0
         have u7 := u7.sub (M' := B9) C0
         have hK := hK.trans a214
         have hO := hO.fr1
         obtain ⟨a216, a217, a218, l3, a324, a219, r1, a220, O9⟩ := app_os Rw49 b8 u7 a215 hO.inM (fun g hg hq => hO.apart g hq (mem_l hg))
         have u9 := os_block u7
         refine xk_val (w' := l3) (b := true) (.slice a216 a217 a218) rfl  (y_append rfl rfl (a219 _)) rfl (fun h => nomatch h) ?_
         have hO := hO.fr1
         have hO := hO.fr1
         have h0 := h0.mt r1 hO u9
         have a3 := a3.ap r1 hO u9 (mem_r (mem_r (mem_l (List.mem_singleton.2 rfl))))
         have a1 := a1.mt r1 hO u9
         have a0 := a0.ma r1 hO u9 (fun _ e => (mem_r (mem_l (e))))
         have a2 := a2.mt r1 hO u9
         have hC := hC.st r1 hO u9
         have hO := hO.eat r1 a220 (os_nodup O9) O9.fpl
         refine x_one (i := 10) (by kernel_rfl) ?_
         obtain ⟨d3, a325, K5, a221, hO, C1⟩ := frz_own (Frz.os (Frz.rs Frz.int)) O9 hO
         have h0 := h0.sub (M' := d3) K5
         have a1 := a1.sub (M' := d3) K5
         have a0 := a0.sub (M' := d3) K5
         have a2 := a2.sub (M' := d3) K5
         have hK := hK.trans a221
         refine xk_call (b := true) rfl  Bd69 rfl (c_spec_l8Close (M := d3) (a_.1, a_.2) 2 y3514 h0 C1 hO.fut b9) rfl (fun h => nomatch h) ?_
         rintro _ r2 ⟨K6, K7, K8, rfl, l4, a222⟩
         have hK := hK.trans (show Keeps w d3 (Past d3 l3 r2) from Keeps.past hC.size)
         have h0 := h0.ext l4
         have a3 := a3.cn l4
         have a1 := a1.ext l4
         have a0 := a0.ext l4
         have a2 := a2.ext l4
         have C1 := C1.ext l4
         have hC := hC.ext l4
         have hO := hO.past l4
         have h0 := h0.sub (M' := (Past d3 l3 r2)) (fun g hg => .inl hg.1)
         have a1 := a1.sub (M' := (Past d3 l3 r2)) (fun g hg => .inl hg.1)
         have a0 := a0.sub (M' := (Past d3 l3 r2)) (fun g hg => .inl hg.1)
         have a2 := a2.sub (M' := (Past d3 l3 r2)) (fun g hg => .inl hg.1)
         have C1 := C1.sub (M' := (Past d3 l3 r2)) (fun g hg => .inl hg.1)
         refine x_p 11 (.tuple #[(.slice K6 K7 K8), (.bool r3518.2)]) rfl (by kernel_rfl)  (fun _ => y_move rfl) (fun h => nomatch h) ?_
         refine x_p 12 (.slice K6 K7 K8) rfl (by kernel_rfl)  (fun _ => y_extract rfl (by kernel_rfl)) (fun h => nomatch h) ?_
         refine x_p 13 (.bool r3518.2) rfl (by kernel_rfl)  (fun _ => y_extract rfl (by kernel_rfl)) (fun h => nomatch h) ?_
         refine x_p 14 (.slice K6 K7 K8) rfl (by kernel_rfl)  (fun _ => y_assign rfl) (fun h => nomatch h) ?_
         refine x_p 15 (.bool r3518.2) rfl (by kernel_rfl)  (fun _ => y_assign rfl) (fun h => nomatch h) ?_
         refine x_end (by kernel_rfl) ?_
         clear hS
         have hO := hO.fr1
         have hO := hO.fr1
         exact ⟨_, (Past d3 l3 r2), K6, K8, K7, fr_ovl 96 ⟨rfl, rfl, rfl, rfl, rfl, rfl, trivial⟩, hC, hO, hK, h0, a3, a1, a0, a222⟩
        ·skip
         obtain ⟨C2, a326, C3, a223, hO, W7⟩ := os_inner (Frz.os Frz.int) K4 hO
         have h0 := h0.sub (M' := C2) C3
         have a1 := a1.sub (M' := C2) C3
         have a0 := a0.sub (M' := C2) C3
         have a2 := a2.sub (M' := C2) C3
         have a8 := a8.sub (M' := C2) C3
         have hK := hK.trans a223
         obtain ⟨a224, a225, a226, a227, a327, a228, l5, a229, f8⟩ := app_rs Rw49 e4 W7 a2 hO.inM
         have r3 := os_block W7
         refine xk_val (w' := a227) (b := true) (.slice a224 a225 a226) rfl  (y_append rfl rfl (a228 _)) rfl (fun h => nomatch h) ?_
         have h0 := h0.mt l5 hO r3
         have a3 := a3.ap l5 hO r3 (mem_r (mem_r (mem_l (List.mem_singleton.2 rfl))))
         have a1 := a1.mt l5 hO r3
         have a0 := a0.ma l5 hO r3 (fun _ e => (mem_r (mem_l (e))))
         have a2 := a2.mt l5 hO r3
         have a8 := a8.ma l5 hO r3 (fun _ e => (mem_l (e)))
         have hC := hC.st l5 hO r3
         have hO := hO.grow l5 a229 (os_nodup f8) f8.fpl
         refine x_two (i := 0) (j := 9) (by kernel_rfl) ?_ ?_
         ·skip
          refine xk_val (b := true) (.agg #[(.int .i64 a_.1), (.slice pa0 pn0 pc0)]) rfl  (y_load rfl ((box_load Ag34 Sz34 a3 [] [(.int .i64 a_.1), (.slice pa0 pn0 pc0)] [] rfl rfl (fun h => nomatch h)) _ (Chg.refl _ _))) rfl (fun h => nomatch h) ?_
          refine x_one (i := 9) (by kernel_rfl) ?_
          have hO := hO.fr1
          obtain ⟨C4, a328, C5, a230, hO, a231⟩ := os_inner (Frz.os Frz.int) a8 hO
          have h0 := h0.sub (M' := C4) C5
          have a1 := a1.sub (M' := C4) C5
          have a0 := a0.sub (M' := C4) C5
          have a2 := a2.sub (M' := C4) C5
          have f8 := f8.sub (M' := C4) C5
          have hK := hK.trans a230
          have hO := hO.fr1
          obtain ⟨a232, a233, a234, l6, a329, a235, r4, a236, P0⟩ := app_os Rw49 b8 f8 a231 hO.inM (fun g hg hq => hO.apart g hq (mem_l hg))
          have v0 := os_block f8
          refine xk_val (w' := l6) (b := true) (.slice a232 a233 a234) rfl  (y_append rfl rfl (a235 _)) rfl (fun h => nomatch h) ?_
          have hO := hO.fr1
          have hO := hO.fr1
          have h0 := h0.mt r4 hO v0
          have a3 := a3.ap r4 hO v0 (mem_r (mem_r (mem_l (List.mem_singleton.2 rfl))))
          have a1 := a1.mt r4 hO v0
          have a0 := a0.ma r4 hO v0 (fun _ e => (mem_r (mem_l (e))))
          have a2 := a2.mt r4 hO v0
          have hC := hC.st r4 hO v0
          have hO := hO.eat r4 a236 (os_nodup P0) P0.fpl
          refine x_one (i := 10) (by kernel_rfl) ?_
          obtain ⟨d4, a330, K9, a237, hO, C6⟩ := frz_own (Frz.os (Frz.rs Frz.int)) P0 hO
          have h0 := h0.sub (M' := d4) K9
          have a1 := a1.sub (M' := d4) K9
          have a0 := a0.sub (M' := d4) K9
          have a2 := a2.sub (M' := d4) K9
          have hK := hK.trans a237
          refine xk_call (b := true) rfl  Bd69 rfl (c_spec_l8Close (M := d4) (a_.1, a_.2) 2 y3514 h0 C6 hO.fut b9) rfl (fun h => nomatch h) ?_
          rintro _ r5 ⟨L0, L1, L2, rfl, l7, a238⟩
          have hK := hK.trans (show Keeps w d4 (Past d4 l6 r5) from Keeps.past hC.size)
          have h0 := h0.ext l7
          have a3 := a3.cn l7
          have a1 := a1.ext l7
          have a0 := a0.ext l7
          have a2 := a2.ext l7
          have C6 := C6.ext l7
          have hC := hC.ext l7
          have hO := hO.past l7
          have h0 := h0.sub (M' := (Past d4 l6 r5)) (fun g hg => .inl hg.1)
          have a1 := a1.sub (M' := (Past d4 l6 r5)) (fun g hg => .inl hg.1)
          have a0 := a0.sub (M' := (Past d4 l6 r5)) (fun g hg => .inl hg.1)
          have a2 := a2.sub (M' := (Past d4 l6 r5)) (fun g hg => .inl hg.1)
          have C6 := C6.sub (M' := (Past d4 l6 r5)) (fun g hg => .inl hg.1)
          refine x_p 11 (.tuple #[(.slice L0 L1 L2), (.bool r3518.2)]) rfl (by kernel_rfl)  (fun _ => y_move rfl) (fun h => nomatch h) ?_
          refine x_p 12 (.slice L0 L1 L2) rfl (by kernel_rfl)  (fun _ => y_extract rfl (by kernel_rfl)) (fun h => nomatch h) ?_
          refine x_p 13 (.bool r3518.2) rfl (by kernel_rfl)  (fun _ => y_extract rfl (by kernel_rfl)) (fun h => nomatch h) ?_
          refine x_p 14 (.slice L0 L1 L2) rfl (by kernel_rfl)  (fun _ => y_assign rfl) (fun h => nomatch h) ?_
          refine x_p 15 (.bool r3518.2) rfl (by kernel_rfl)  (fun _ => y_assign rfl) (fun h => nomatch h) ?_
          refine x_end (by kernel_rfl) ?_
          clear hS
          have hO := hO.fr1
          have hO := hO.fr1
          exact ⟨_, (Past d4 l6 r5), L0, L2, L1, fr_ovl 96 ⟨rfl, rfl, rfl, rfl, rfl, rfl, trivial⟩, hC, hO, hK, h0, a3, a1, a0, a238⟩
         ·skip
          have hO := hO.fr1
          obtain ⟨C7, a331, C8, a239, hO, a240⟩ := os_inner (Frz.os Frz.int) a8 hO
          have h0 := h0.sub (M' := C7) C8
          have a1 := a1.sub (M' := C7) C8
          have a0 := a0.sub (M' := C7) C8
          have a2 := a2.sub (M' := C7) C8
          have f8 := f8.sub (M' := C7) C8
          have hK := hK.trans a239
          have hO := hO.fr1
          obtain ⟨a241, a242, a243, l8, a332, a244, r6, a245, P1⟩ := app_os Rw49 b8 f8 a240 hO.inM (fun g hg hq => hO.apart g hq (mem_l hg))
          have v1 := os_block f8
          refine xk_val (w' := l8) (b := true) (.slice a241 a242 a243) rfl  (y_append rfl rfl (a244 _)) rfl (fun h => nomatch h) ?_
          have hO := hO.fr1
          have hO := hO.fr1
          have h0 := h0.mt r6 hO v1
          have a3 := a3.ap r6 hO v1 (mem_r (mem_r (mem_l (List.mem_singleton.2 rfl))))
          have a1 := a1.mt r6 hO v1
          have a0 := a0.ma r6 hO v1 (fun _ e => (mem_r (mem_l (e))))
          have a2 := a2.mt r6 hO v1
          have hC := hC.st r6 hO v1
          have hO := hO.eat r6 a245 (os_nodup P1) P1.fpl
          refine x_one (i := 0) (by kernel_rfl) ?_
          refine xk_val (b := true) (.agg #[(.int .i64 a_.1), (.slice pa0 pn0 pc0)]) rfl  (y_load rfl ((box_load Ag34 Sz34 a3 [] [(.int .i64 a_.1), (.slice pa0 pn0 pc0)] [] rfl rfl (fun h => nomatch h)) _ (Chg.refl _ _))) rfl (fun h => nomatch h) ?_
          refine x_one (i := 10) (by kernel_rfl) ?_
          obtain ⟨d5, a333, L3, a246, hO, C9⟩ := frz_own (Frz.os (Frz.rs Frz.int)) P1 hO
          have h0 := h0.sub (M' := d5) L3
          have a1 := a1.sub (M' := d5) L3
          have a0 := a0.sub (M' := d5) L3
          have a2 := a2.sub (M' := d5) L3
          have hK := hK.trans a246
          refine xk_call (b := true) rfl  Bd69 rfl (c_spec_l8Close (M := d5) (a_.1, a_.2) 2 y3514 h0 C9 hO.fut b9) rfl (fun h => nomatch h) ?_
          rintro _ r8 ⟨L4, L5, L6, rfl, l9, a247⟩
          have hK := hK.trans (show Keeps w d5 (Past d5 l8 r8) from Keeps.past hC.size)
          have h0 := h0.ext l9
          have a3 := a3.cn l9
          have a1 := a1.ext l9
          have a0 := a0.ext l9
          have a2 := a2.ext l9
          have C9 := C9.ext l9
          have hC := hC.ext l9
          have hO := hO.past l9
          have h0 := h0.sub (M' := (Past d5 l8 r8)) (fun g hg => .inl hg.1)
          have a1 := a1.sub (M' := (Past d5 l8 r8)) (fun g hg => .inl hg.1)
          have a0 := a0.sub (M' := (Past d5 l8 r8)) (fun g hg => .inl hg.1)
          have a2 := a2.sub (M' := (Past d5 l8 r8)) (fun g hg => .inl hg.1)
          have C9 := C9.sub (M' := (Past d5 l8 r8)) (fun g hg => .inl hg.1)
          refine x_p 11 (.tuple #[(.slice L4 L5 L6), (.bool r3518.2)]) rfl (by kernel_rfl)  (fun _ => y_move rfl) (fun h => nomatch h) ?_
          refine x_p 12 (.slice L4 L5 L6) rfl (by kernel_rfl)  (fun _ => y_extract rfl (by kernel_rfl)) (fun h => nomatch h) ?_
          refine x_p 13 (.bool r3518.2) rfl (by kernel_rfl)  (fun _ => y_extract rfl (by kernel_rfl)) (fun h => nomatch h) ?_
          refine x_p 14 (.slice L4 L5 L6) rfl (by kernel_rfl)  (fun _ => y_assign rfl) (fun h => nomatch h) ?_
          refine x_p 15 (.bool r3518.2) rfl (by kernel_rfl)  (fun _ => y_assign rfl) (fun h => nomatch h) ?_
          refine x_end (by kernel_rfl) ?_
          clear hS
          have hO := hO.fr1
          have hO := hO.fr1
          exact ⟨_, (Past d5 l8 r8), L4, L6, L5, fr_ovl 96 ⟨rfl, rfl, rfl, rfl, rfl, rfl, trivial⟩, hC, hO, hK, h0, a3, a1, a0, a247⟩
     rintro s5 b7 ⟨σ, b3, n0, n1, n2, rfl, hC, hO, hK, h0, a3, a1, a0, f9⟩
     refine c_sr ?_
     refine pl_val (.slice d6 d7 d8) (y_move rfl) ?_
     refine pl_val (.slice n0 n2 n1) (y_move rfl) ?_
     obtain ⟨r3895, a248, hs⟩ := bind_some hs
     refine pl_call Bd72 rfl (c_spec_l18Put (M := b3) s3468.1 r3518.1 a1 f9 hO.fut a248) ?_
     rintro _ g0 ⟨D0, D1, D2, rfl, r9, v2⟩
     have hK := hK.trans (show Keeps w b3 (Past b3 b7 g0) from Keeps.past hC.size)
     have h0 := h0.ext r9
     have a3 := a3.cn r9
     have a1 := a1.ext r9
     have a0 := a0.ext r9
     have f9 := f9.ext r9
     have hC := hC.ext r9
     have hO := hO.past r9
     have h0 := h0.sub (M' := (Past b3 b7 g0)) (fun g hg => .inl hg.1)
     have a1 := a1.sub (M' := (Past b3 b7 g0)) (fun g hg => .inl hg.1)
     have a0 := a0.sub (M' := (Past b3 b7 g0)) (fun g hg => .inl hg.1)
     have f9 := f9.sub (M' := (Past b3 b7 g0)) (fun g hg => .inl hg.1)
     refine pl_val (.slice D0 D1 D2) (y_assign rfl) ?_
     refine c_nil ?_
     refine c_sr ?_
     refine pl_val (.slice D0 D1 D2) (y_move rfl) ?_
     refine pl_val (.int .i64 (r3895.length : Int)) (y_len' Sl59 (rs_len v2) rfl) ?_
     refine pl_val (.slice d6 d7 d8) (y_move rfl) ?_
     refine pl_val (.int .i64 (s3468.1.length : Int)) (y_len' Sl59 (rs_len a1) rfl) ?_
     refine pl_val (.bool (decide ((s3468.1.length : Int) < (r3895.length : Int)))) (y_gtr rfl rfl) ?_
     refine c_nil ?_
     rcases bif_some hs with ⟨P2, hs⟩ | ⟨P2, hs⟩
     ·refine c_condT (congrArg Value.bool P2) ?_
      refine c_sr ?_
      refine pl_val (.slice D0 D1 D2) (y_move rfl) ?_
      refine pl_val (.slice D0 D1 D2) (y_assign rfl) ?_
      refine c_nil ?_
      refine c_region ?_
      refine pl_val (.slice d9 e0 e1) (y_move rfl) ?_
      refine pl_val (.slice n0 n2 n1) (y_move rfl) ?_
      obtain ⟨W8, P3, a249, W9, s0, X0⟩ := new_block g0 [(.slice n0 n2 n1)] 49
      refine pl_val (w' := W8) (.slice (some ⟨P3, 0, none⟩) 1 1) (y_bslice rfl (by rw [a249, W9]; kernel_rfl)) ?_
      have h0 := h0.ext s0
      have a3 := a3.cn s0
      have a0 := a0.ext s0
      have f9 := f9.ext s0
      have v2 := v2.ext s0
      have hC := hC.ext s0
      have hO := hO.new1 s0 W9 X0.lt
      have P4 := os_of_box (r := (RT.rs (RT.rs (RT.int .i64)))) (M := (Past b3 b7 g0)) (css := [[(.slice n0 n2 n1)]]) (fps := [([] : List Nat)]) (xs := ([r3518.1] : List (List (List Int)))) X0 ⟨(rs_unval f9), trivial⟩ (Nat.le_of_ble_eq_true rfl) (List.nodup_cons.2 ⟨(fun h => nomatch h), List.nodup_nil⟩)
      have P4 : (RT.os 49 (RT.rs (RT.rs (RT.int .i64)))).val (Past b3 b7 g0) W8 (.slice (some ⟨P3, 0, none⟩) 1 1) [r3518.1] [P3] := P4
      obtain ⟨y3901, a250, hs⟩ := bind_some hs
      have hO := hO.fr1
      obtain ⟨P5, P6, P7, a251, a252, a253, v3, a254, P8⟩ := app_os Rw59 a250 a0 P4 hO.inM (fun g hg hq => hO.apart g hq (mem_l hg))
      have D3 := os_block a0
      refine pl_val (w' := a251) (.slice P5 P6 P7) (y_append rfl rfl (a253 _)) ?_
      have hO := hO.fr1
      have hO := hO.fr1
      have h0 := h0.mt v3 hO D3
      have a3 := a3.ap v3 hO D3 (mem_r (mem_l (List.mem_singleton.2 rfl)))
      have f9 := f9.mt v3 hO D3
      have v2 := v2.mt v3 hO D3
      have hC := hC.st v3 hO D3
      have hO := hO.eat v3 a254 (os_nodup P8) P8.fpl
      refine pl_val (.slice P5 P6 P7) (y_assign rfl) ?_
      refine c_nil ?_
      refine c_region ?_
      refine pl_val (.int .i64 s3468.2.2) (y_move rfl) ?_
      refine pl_val (.int .i64 (w64 (s3468.2.2 + 1))) (y_add rfl rfl) ?_
      refine pl_val (.int .i64 (w64 (s3468.2.2 + 1))) (y_assign rfl) ?_
      refine c_nil ?_
      cases hs
      have hO := hO.fr1
      have hO := hO.fr1
      exact ⟨_, (Past b3 b7 g0), D0, D1, D2, P5, P6, P7, a252, fr_ovl 96 ⟨rfl, rfl, rfl, rfl, rfl, trivial⟩, hC, hO, hK, h0, a3, v2, P8⟩
     refine c_condF (congrArg Value.bool P2) ?_
     refine wp_skip ?_
     refine c_region ?_
     refine pl_val (.int .i64 s3468.2.2) (y_move rfl) ?_
     refine pl_val (.int .i64 (w64 (s3468.2.2 + 1))) (y_add rfl rfl) ?_
     refine pl_val (.int .i64 (w64 (s3468.2.2 + 1))) (y_assign rfl) ?_
     refine c_nil ?_
     cases hs
     have hO := hO.fr1
     have hO := hO.fr1
     exact ⟨_, (Past b3 b7 g0), d6, d7, d8, d9, e0, e1, b2, fr_ovl 96 ⟨rfl, rfl, rfl, rfl, rfl, trivial⟩, hC, hO, hK, h0, a3, a1, a0⟩
    refine c_condF (congrArg Value.bool M4) ?_
    refine wp_exit ?_
    cases hs
    have hO := hO.fr1
    have hO := hO.fr1
    exact ⟨rfl, _, a6, d6, d7, d8, d9, e0, e1, b2, fr_ovl 96 ⟨rfl, rfl, rfl, rfl, trivial⟩, hC, hO, hK, h0, a3, a1, a0⟩
   ·skip
    have hO := hO.fr1
    have hO := hO.fr1
    exact ⟨_, h3, m0, m1, m2, m3, m4, m5, w1, fr_ovl 96 ⟨rfl, rfl, rfl, rfl, rfl, trivial⟩, hC, hO, hK, h0, a3, w2, w3⟩
   cases o3472 with
   | nx _ => exact True.intro
   | rt r_ =>
    have hs := after_rt hs
    intro s5 P9 hK
    cases hs
    exact hK
   | br s3468 =>
    have hs := after_br hs
    rintro s5 b6 ⟨σ, m9, D5, D6, D7, D8, D9, E0, E1, rfl, hC, hO, hK, h0, a3, a255, a256⟩
    refine c_region ?_
    refine pl_val (.int .i64 s2600.2.2) (y_move rfl) ?_
    refine pl_val (.int .i64 (w64 (s2600.2.2 + 1))) (y_add rfl rfl) ?_
    refine pl_val (.int .i64 (w64 (s2600.2.2 + 1))) (y_assign rfl) ?_
    refine c_nil ?_
    cases hs
    have hO := hO.fr1
    have hO := hO.fr1
    exact ⟨_, m9, D5, D6, D7, D8, D9, E0, E1, fr_ovl 96 ⟨rfl, rfl, rfl, rfl, trivial⟩, hC, hO, hK, h0, a3, a255, a256⟩
  refine c_condF (congrArg Value.bool M3) ?_
  refine wp_exit ?_
  cases hs
  have hO := hO.fr1
  have hO := hO.fr1
  exact ⟨rfl, _, h3, m0, m1, m2, m3, m4, m5, w1, fr_ovl 96 ⟨rfl, trivial⟩, hC, hO, hK, h0, a3, w2, w3⟩
 ·skip
  have hO := hO.fr1
  have hO := hO.fr1
  exact ⟨_, M1, (some ⟨v6, 0, none⟩), 1, 1, (some ⟨s2, 0, none⟩), 1, 1, ([s2]), fr_ovl 96 ⟨rfl, rfl, rfl, rfl, trivial⟩, hC, hO, hK, h0, a3, Y0, v9⟩
 cases o2604 with
 | nx _ => exact True.intro
 | rt r_ =>
  have hs := after_rt hs
  intro s5 P9 hK
  cases hs
  exact hK
 | br s2600 =>
  have hs := after_br hs
  rintro s5 b5 ⟨σ, s4, m6, m7, m8, R0, R1, R2, M2, rfl, hC, hO, hK, h0, a3, X1, a334⟩
  refine c_sr ?_
  refine pl_val (.slice m6 m7 m8) (y_move rfl) ?_
  refine pl_val (.slice m6 m7 m8) (y_move rfl) ?_
  refine pl_val (.int .i64 (s2600.1.length : Int)) (y_len' Sl59 (rs_len X1) rfl) ?_
  refine pl_val (.bool (decide ((s2600.1.length : Int) ≤ 200))) (y_leq rfl rfl) ?_
  refine pl_val (.slice m6 m7 m8) (y_assign rfl) ?_
  refine pl_val (.bool (decide ((s2600.1.length : Int) ≤ 200))) (y_assign rfl) ?_
  refine c_nil ?_
  refine wp_ret ?_
  cases hs
  exact ⟨_, m6, m7, m8, fr_ovl 96 ⟨rfl, rfl, trivial⟩, hC, (Keeps.out hK X1)⟩

theorem Bd54 : Bodied Try.prog 54 := bodied Try.func54 (by kernel_rfl) rfl

theorem Bd55 : Bodied Try.prog 55 := bodied Try.func55 (by kernel_rfl) rfl

def k_spec_l18Asked (M : Nat → Prop) (w0 : World) (r : (List (List (List Int))) × Bool) (a : Act) (w : World) : Prop :=
  ∃ (σ : Nat → Value) (ra0 : Option Addr) (rn0 rc0 : Nat), a = fr 17 (ovl σ [(2, (.slice ra0 rn0 rc0)), (3, (.bool r.2))]) ∧ Chg [] w0 w ∧ (RT.rs (RT.rs (RT.rs (RT.int .i64)))).val (Past M w0 w) w (.slice ra0 rn0 rc0) r.1 []
def s_spec_l18Asked (a_ : Int × (List (Int × (List Int)))) : Option ((List (List (List Int))) × Bool) :=
  ((s_spec_l2Good (a_.1, a_.2)).bind fun r7 =>
  (bif (!r7) then some true else some (decide (4 < a_.1)))).bind fun s3 =>
  (bif s3 then some ([], false) else (s_spec_l18All (a_.1, a_.2)).bind fun r14 =>
  some (r14.1, r14.2))
set_option maxHeartbeats 4000000 in
theorem c_spec_l18Asked {M : Nat → Prop} {w : World} {pa0 : Option Addr} {pn0 pc0 : Nat} (a_ : Int × (List (Int × (List Int)))) (h0 : (RT.rs (RT.pr (RT.int .i64) (RT.rs (RT.int .i64)))).val M w (.slice pa0 pn0 pc0) a_.2 ([])) (hM : ∀ g, w.heap.size ≤ g → M g) {r : (List (List (List Int))) × Bool} (hs : s_spec_l18Asked a_ = some r) :
    Gives Try.prog 34 [(.agg #[(.int .i64 a_.1), (.slice pa0 pn0 pc0)])] w (fun v w' => ∃ (ra0 : Option Addr) (rn0 rc0 : Nat), v = (.tuple #[(.slice ra0 rn0 rc0), (.bool r.2)]) ∧ Chg [] w w' ∧ (RT.rs (RT.rs (RT.rs (RT.int .i64)))).val (Past M w w') w' (.slice ra0 rn0 rc0) r.1 []) := by
 refine calls_fr Try.func34 rfl Try.ntmps34 (Nat.le_of_ble_eq_true rfl) ?_
 have hO := Own.start (N := Nw w []) hM Nw.fut
 have hC := Chg.refl [] w
 unfold s_spec_l18Asked at hs
 refine wp_mono (Q := KPost (k_spec_l18Asked M w r)) ?_ (fun e a d1 h => ?_)
 rotate_left
 ·cases e
  case ret =>
   obtain ⟨σ, ra0, rn0, rc0, rfl, hrest⟩ := h
   exact ret2x Try.results34 (res_tmp rfl) (res_tmp rfl) ⟨ra0, rn0, rc0, rfl, hrest⟩
  all_goals exact (h : False).elim
 refine c_sr ?_
 obtain ⟨a8, a9, c1, b6, b0, a0⟩ := new_block w [(.int .i64 a_.1), (.slice pa0 pn0 pc0)] 34
 refine pl_val (w' := a8) (.pointer (some ⟨a9, 0, none⟩)) (y_box rfl (by rw [c1, b6]; kernel_rfl)) ?_
 have h0 := h0.ext b0
 have hC := hC.ext b0
 have hO := hO.new1 b0 b6 a0.lt
 refine pl_val (.slice none 0 0) (y_assign rfl) ?_
 refine pl_val (.bool false) (y_assign rfl) ?_
 refine c_nil ?_
 refine c_seq ?_
 refine c_seq ?_
 obtain ⟨s3, c2, hs⟩ := bind_some hs
 refine c_mid (I := fun a a2 => ∃ (σ : Nat → Value), a = fr 17 (ovl σ [(1, (.pointer (some ⟨a9, 0, none⟩))), (2, (.slice none 0 0)), (3, (.bool false)), (11, (.bool s3))]) ∧ Chg [] a8 a2) ?_ ?_
 ·replace hs := c2
  have hMid := Chg.refl [] a8
  refine c_region ?_
  refine pl_val (.agg #[(.int .i64 a_.1), (.slice pa0 pn0 pc0)]) (y_load rfl ((box_load Ag34 Sz34 a0 [] [(.int .i64 a_.1), (.slice pa0 pn0 pc0)] [] rfl rfl (fun h => nomatch h)) _ (Chg.refl _ _))) ?_
  obtain ⟨r7, c3, hs⟩ := bind_some hs
  refine pl_call Bd54 rfl (c_spec_l2Good (M := M) (a_.1, a_.2) h0 hO.fut c3) ?_
  rintro _ d2 ⟨rfl, a3⟩
  have h0 := h0.ext a3
  have a0 := a0.cn a3
  have hMid := hMid.ext a3
  have hC := hC.ext a3
  have hO := hO.ext a3
  refine pl_val (.bool (!r7)) (y_not rfl) ?_
  refine pl_val (.bool (!r7)) (y_move rfl) ?_
  rcases bif_some hs with ⟨a1, hs⟩ | ⟨a1, hs⟩
  ·skip
   refine pl_not (tg := 7) (by kernel_rfl) (congrArg Value.bool a1) ?_
   refine pl_not (tg := 7) (by kernel_rfl) (congrArg Value.bool a1) ?_
   refine pl_not (tg := 7) (by kernel_rfl) (congrArg Value.bool a1) ?_
   refine pl_val (.bool true) (y_pick_t (congrArg Value.bool a1) rfl) ?_
   refine c_nil ?_
   cases hs
   exact ⟨_, fr_ovl 17 ⟨rfl, rfl, rfl, rfl, trivial⟩, hMid⟩
  refine pl_yes (.pointer (some ⟨a9, 0, none⟩)) (tg := 7) (by kernel_rfl) (congrArg Value.bool a1) (y_faddr rfl Fa34x0) ?_
  refine pl_yes (.int .i64 a_.1) (tg := 7) (by kernel_rfl) (congrArg Value.bool a1) (y_load rfl ((box_load Ag3 Sz3 a0 [] [(.int .i64 a_.1)] [(.slice pa0 pn0 pc0)] rfl rfl (fun _ => rfl)) _ (Chg.refl _ _))) ?_
  refine pl_yes (.bool (decide (4 < a_.1))) (tg := 7) (by kernel_rfl) (congrArg Value.bool a1) (y_gtr rfl rfl) ?_
  refine pl_val (.bool (decide (4 < a_.1))) (y_pick_f (congrArg Value.bool a1) rfl) ?_
  refine c_nil ?_
  cases hs
  exact ⟨_, fr_ovl 17 ⟨rfl, rfl, rfl, rfl, trivial⟩, hMid⟩
 rintro d3 a2 ⟨σ, rfl, a5⟩
 have h0 := h0.ext a5
 have a0 := a0.cn a5
 have hC := hC.ext a5
 have hO := hO.ext a5
 rcases bif_some hs with ⟨b1, hs⟩ | ⟨b1, hs⟩
 ·refine c_condT (congrArg Value.bool b1) ?_
  refine c_sr ?_
  obtain ⟨b7, a4, c4, b8, a6, b9⟩ := new_block a2 [] 49
  refine pl_val (w' := b7) (.slice (some ⟨a4, 0, none⟩) 0 0) (y_bslice rfl (by rw [c4, b8]; kernel_rfl)) ?_
  have h0 := h0.ext a6
  have a0 := a0.cn a6
  have hC := hC.ext a6
  have hO := hO.new1 a6 b8 b9.lt
  have b2 := os_of_box (r := (RT.os 25 (RT.os 3 (RT.int .i64)))) (M := M) (css := []) (fps := []) (xs := ([] : List (List (List Int)))) b9 trivial (Nat.zero_le _) (List.nodup_cons.2 ⟨(fun h => nomatch h), List.nodup_nil⟩)
  have b2 : (RT.os 49 (RT.os 25 (RT.os 3 (RT.int .i64)))).val M b7 (.slice (some ⟨a4, 0, none⟩) 0 0) [] [a4] := b2
  refine pl_val (.slice (some ⟨a4, 0, none⟩) 0 0) (y_assign rfl) ?_
  refine pl_val (.bool false) (y_assign rfl) ?_
  refine c_nil ?_
  refine wp_ret ?_
  cases hs
  obtain ⟨c5, d4, c6, c7, hO, c8⟩ := frz_own (Frz.os (Frz.os (Frz.os Frz.int))) b2 hO
  have h0 := h0.sub (M' := c5) c6
  have hK := c7
  exact ⟨_, (some ⟨a4, 0, none⟩), 0, 0, fr_ovl 17 ⟨rfl, rfl, trivial⟩, hC, (Keeps.out hK c8)⟩
 refine c_condF (congrArg Value.bool b1) ?_
 refine wp_skip ?_
 refine c_sr ?_
 refine pl_val (.agg #[(.int .i64 a_.1), (.slice pa0 pn0 pc0)]) (y_load rfl ((box_load Ag34 Sz34 a0 [] [(.int .i64 a_.1), (.slice pa0 pn0 pc0)] [] rfl rfl (fun h => nomatch h)) _ (Chg.refl _ _))) ?_
 obtain ⟨r14, c9, hs⟩ := bind_some hs
 refine pl_call Bd55 rfl (c_spec_l18All (M := M) (a_.1, a_.2) h0 hO.fut c9) ?_
 rintro _ c0 ⟨b3, b4, b5, rfl, a7, d0⟩
 have hK := (show Keeps w M (Past M a2 c0) from Keeps.past hC.size)
 have h0 := h0.ext a7
 have a0 := a0.cn a7
 have hC := hC.ext a7
 have hO := hO.past a7
 have h0 := h0.sub (M' := (Past M a2 c0)) (fun g hg => .inl hg.1)
 refine pl_val (.slice b3 b4 b5) (y_extract rfl (by kernel_rfl)) ?_
 refine pl_val (.bool r14.2) (y_extract rfl (by kernel_rfl)) ?_
 refine pl_val (.slice b3 b4 b5) (y_assign rfl) ?_
 refine pl_val (.bool r14.2) (y_assign rfl) ?_
 refine c_nil ?_
 refine wp_ret ?_
 cases hs
 exact ⟨_, b3, b4, b5, fr_ovl 17 ⟨rfl, rfl, trivial⟩, hC, (Keeps.out hK d0)⟩

def k_spec_l13Result (M : Nat → Prop) (w0 : World) (r : (List Int)) (a : Act) (w : World) : Prop :=
  ∃ (σ : Nat → Value) (ra0 : Option Addr) (rn0 rc0 : Nat) (rf0 : List Nat), a = fr 16 (ovl σ [(8, (.slice ra0 rn0 rc0))]) ∧ Chg [] w0 w ∧ (RT.os 3 (RT.int .i64)).val M w (.slice ra0 rn0 rc0) r rf0 ∧ Own (Nw w0 []) (fun _ => True) w (rf0 ++ ([]))
def s_spec_l13Result (n : Int) (op : Int × (List Int)) (tuples : List (List Int)) (arity : Int) : Option ((List Int)) :=
  (s_spec_l8Apply (n, [(op.1, op.2)]) 0 tuples arity).bind fun r7 =>
  some r7
set_option maxHeartbeats 4000000 in
theorem c_spec_l13Result {M : Nat → Prop} {w : World} {pa0 : Option Addr} {pn0 pc0 : Nat} {pa1 : Option Addr} {pn1 pc1 : Nat} (n : Int) (op : Int × (List Int)) (tuples : List (List Int)) (arity : Int) (h0 : (RT.rs (RT.int .i64)).val M w (.slice pa0 pn0 pc0) op.2 ([])) (h1 : (RT.rs (RT.rs (RT.int .i64))).val M w (.slice pa1 pn1 pc1) tuples ([])) (hM : ∀ g, w.heap.size ≤ g → M g) {r : (List Int)} (hs : s_spec_l13Result n op tuples arity = some r) :
    Gives Try.prog 92 [(.int .i64 n), (.agg #[(.int .i64 op.1), (.slice pa0 pn0 pc0)]), (.slice pa1 pn1 pc1), (.int .i64 arity)] w (fun v w' => ∃ (ra0 : Option Addr) (rn0 rc0 : Nat) (rf0 : List Nat), v = (.slice ra0 rn0 rc0) ∧ Chg [] w w' ∧ (RT.os 3 (RT.int .i64)).val M w' (.slice ra0 rn0 rc0) r rf0 ∧ Own (Nw w []) (fun _ => True) w' (rf0 ++ ([]))) := by
 refine calls_fr Try.func92 rfl Try.ntmps92 (Nat.le_of_ble_eq_true rfl) ?_
 have hO := Own.start (N := Nw w []) hM Nw.fut
 have hC := Chg.refl [] w
 unfold s_spec_l13Result at hs
 refine wp_mono (Q := KPost (k_spec_l13Result M w r)) ?_ (fun e a c1 h => ?_)
 rotate_left
 ·cases e
  case ret =>
   obtain ⟨σ, ra0, rn0, rc0, rf0, rfl, hrest⟩ := h
   exact ret1x Try.results92 (res_tmp rfl) ⟨ra0, rn0, rc0, rf0, rfl, hrest⟩
  all_goals exact (h : False).elim
 refine c_sr ?_
 obtain ⟨a7, a8, b7, a9, a5, a0⟩ := new_block w [(.int .i64 op.1), (.slice pa0 pn0 pc0)] 36
 refine pl_val (w' := a7) (.pointer (some ⟨a8, 0, none⟩)) (y_box rfl (by rw [b7, a9]; kernel_rfl)) ?_
 have h0 := h0.ext a5
 have h1 := h1.ext a5
 have hC := hC.ext a5
 have hO := hO.new1 a5 a9 a0.lt
 refine pl_val (.slice none 0 0) (y_assign rfl) ?_
 refine c_nil ?_
 refine c_sr ?_
 refine pl_val (.int .i64 n) (y_move rfl) ?_
 refine pl_val (.agg #[(.int .i64 op.1), (.slice pa0 pn0 pc0)]) (y_load rfl ((box_load Ag36 Sz36 a0 [] [(.int .i64 op.1), (.slice pa0 pn0 pc0)] [] rfl rfl (fun h => nomatch h)) _ (Chg.refl _ _))) ?_
 obtain ⟨b0, a1, b8, b1, a3, b2⟩ := new_block a7 [(.int .i64 op.1), (.slice pa0 pn0 pc0)] 36
 refine pl_val (w' := b0) (.slice (some ⟨a1, 0, none⟩) 1 1) (y_bslice rfl (by rw [b8, b1]; kernel_rfl)) ?_
 have h0 := h0.ext a3
 have h1 := h1.ext a3
 have a0 := a0.cn a3
 have hC := hC.ext a3
 have hO := hO.new1 a3 b1 b2.lt
 have a4 := os_of_box (r := (RT.pr (RT.int .i64) (RT.rs (RT.int .i64)))) (M := M) (css := [[(.int .i64 op.1), (.slice pa0 pn0 pc0)]]) (fps := [([] : List Nat)]) (xs := ([(op.1, op.2)] : List (Int × (List Int)))) b2 ⟨⟨_, _, _, _, rfl, rfl, ⟨rfl, rfl⟩, (rs_unval h0)⟩, trivial⟩ (Nat.le_of_ble_eq_true rfl) (List.nodup_cons.2 ⟨(fun h => nomatch h), List.nodup_nil⟩)
 have a4 : (RT.os 36 (RT.pr (RT.int .i64) (RT.rs (RT.int .i64)))).val M b0 (.slice (some ⟨a1, 0, none⟩) 1 1) [(op.1, op.2)] [a1] := a4
 refine pl_val (.agg #[(.int .i64 n), (.slice (some ⟨a1, 0, none⟩) 1 1)]) (y_build rfl (by kernel_rfl)) ?_
 refine pl_val (.slice pa1 pn1 pc1) (y_move rfl) ?_
 refine pl_val (.int .i64 arity) (y_move rfl) ?_
 obtain ⟨r7, b9, hs⟩ := bind_some hs
 refine pl_call Bd83 rfl (c_spec_l8Apply (M := (Less M ([a1]))) (n, [(op.1, op.2)]) 0 tuples arity (((Frz.os (Frz.pr Frz.int (Frz.rs Frz.int)))).val a4 Less.sub Less.not) (h1.sub Less.sub) hO.less.fut b9) ?_
 rintro _ c2 ⟨b3, b4, b5, b6, rfl, a2, a6, c0⟩
 have h0 := h0.ext a2
 have h1 := h1.ext a2
 have a0 := a0.cn a2
 have a4 := a4.ext a2
 have hC := hC.ext a2
 have hO := Own.join0 hO a2 c0
 have hO := hO.perm (R := b6 ++ (([a1]) ++ (([a8]) ++ ([])))) (by simp)
 have a6 := a6.free (M' := M) (Free.os Free.int)
 refine pl_val (.slice b3 b4 b5) (y_assign rfl) ?_
 refine c_nil ?_
 refine wp_ret ?_
 cases hs
 have hO := hO.fr1
 have hO := hO.drop
 have hO := hO.fr1
 have hO := hO.drop
 exact ⟨_, b3, b4, b5, b6, fr_ovl 16 ⟨rfl, trivial⟩, hC, a6, hO.top⟩

theorem Fa51x0 : ∀ (a : Addr) (w : World), (Instr.fieldAt 51 (.pointer (some a)) 0).run Try.prog w = .ok (.pointer (some (a.add 0))) w := fun _ _ => by kernel_rfl

theorem Fa51x1 : ∀ (a : Addr) (w : World), (Instr.fieldAt 51 (.pointer (some a)) 1).run Try.prog w = .ok (.pointer (some (a.add 1))) w := fun _ _ => by kernel_rfl

def k_spec_l13Has (M : Nat → Prop) (w0 : World) (r : Bool) (a : Act) (w : World) : Prop :=
  ∃ (σ : Nat → Value) , a = fr 20 (ovl σ [(4, (.bool r))]) ∧ Chg [] w0 w
def s_spec_l13Has (r_ : Int × (List (List Int))) (t : List Int) : Option (Bool) :=
  (bif ((t.length : Int) != r_.1) then some false else (s_spec_l8Find r_.2 t).bind fun r6 =>
  some r6.2)
set_option maxHeartbeats 4000000 in
theorem c_spec_l13Has {M : Nat → Prop} {w : World} {pa0 : Option Addr} {pn0 pc0 : Nat} {pa1 : Option Addr} {pn1 pc1 : Nat} (r_ : Int × (List (List Int))) (t : List Int) (h0 : (RT.rs (RT.rs (RT.int .i64))).val M w (.slice pa0 pn0 pc0) r_.2 ([])) (h1 : (RT.rs (RT.int .i64)).val M w (.slice pa1 pn1 pc1) t ([])) (hM : ∀ g, w.heap.size ≤ g → M g) {r : Bool} (hs : s_spec_l13Has r_ t = some r) :
    Gives Try.prog 64 [(.agg #[(.int .i64 r_.1), (.slice pa0 pn0 pc0)]), (.slice pa1 pn1 pc1)] w (fun v w' => v = (.bool r) ∧ Chg [] w w') := by
 refine calls_fr Try.func64 rfl Try.ntmps64 (Nat.le_of_ble_eq_true rfl) ?_
 have hO := Own.start (N := Nw w []) hM Nw.fut
 have hC := Chg.refl [] w
 unfold s_spec_l13Has at hs
 refine wp_mono (Q := KPost (k_spec_l13Has M w r)) ?_ (fun e a a9 h => ?_)
 rotate_left
 ·cases e
  case ret =>
   obtain ⟨σ, rfl, hrest⟩ := h
   exact ret1x Try.results64 (res_tmp rfl) ⟨rfl, hrest⟩
  all_goals exact (h : False).elim
 refine c_sr ?_
 obtain ⟨a6, a3, a7, a5, a2, a0⟩ := new_block w [(.int .i64 r_.1), (.slice pa0 pn0 pc0)] 51
 refine pl_val (w' := a6) (.pointer (some ⟨a3, 0, none⟩)) (y_box rfl (by rw [a7, a5]; kernel_rfl)) ?_
 have h0 := h0.ext a2
 have h1 := h1.ext a2
 have hC := hC.ext a2
 have hO := hO.new1 a2 a5 a0.lt
 refine pl_val (.bool false) (y_assign rfl) ?_
 refine c_nil ?_
 refine c_seq ?_
 refine c_sr ?_
 refine pl_val (.slice pa1 pn1 pc1) (y_move rfl) ?_
 refine pl_val (.int .i64 (t.length : Int)) (y_len' Sl25 (rs_len h1) rfl) ?_
 refine pl_val (.pointer (some ⟨a3, 0, none⟩)) (y_faddr rfl Fa51x0) ?_
 refine pl_val (.int .i64 r_.1) (y_load rfl ((box_load Ag3 Sz3 a0 [] [(.int .i64 r_.1)] [(.slice pa0 pn0 pc0)] rfl rfl (fun _ => rfl)) _ (Chg.refl _ _))) ?_
 refine pl_val (.bool ((t.length : Int) != r_.1)) (y_neq rfl rfl) ?_
 refine c_nil ?_
 rcases bif_some hs with ⟨a4, hs⟩ | ⟨a4, hs⟩
 ·refine c_condT (congrArg Value.bool a4) ?_
  refine c_sr ?_
  refine pl_val (.bool false) (y_assign rfl) ?_
  refine c_nil ?_
  refine wp_ret ?_
  cases hs
  exact ⟨_, fr_ovl 20 ⟨rfl, trivial⟩, hC⟩
 refine c_condF (congrArg Value.bool a4) ?_
 refine wp_skip ?_
 refine c_sr ?_
 refine pl_val (.pointer (some ⟨a3, 1, none⟩)) (y_faddr rfl Fa51x1) ?_
 refine pl_val (.slice pa0 pn0 pc0) (y_load rfl ((box_load Ag49 Sz49 a0 [(.int .i64 r_.1)] [(.slice pa0 pn0 pc0)] [] rfl rfl (fun _ => rfl)) _ (Chg.refl _ _))) ?_
 refine pl_val (.slice pa1 pn1 pc1) (y_move rfl) ?_
 obtain ⟨r6, a8, hs⟩ := bind_some hs
 refine pl_call Bd71 rfl (c_spec_l8Find (M := M) r_.2 t h0 h1 hO.fut a8) ?_
 rintro _ b0 ⟨rfl, a1⟩
 have h0 := h0.ext a1
 have h1 := h1.ext a1
 have a0 := a0.cn a1
 have hC := hC.ext a1
 have hO := hO.ext a1
 refine pl_val (.tuple #[(.int .i64 r6.1), (.bool r6.2)]) (y_move rfl) ?_
 refine pl_val (.int .i64 r6.1) (y_extract rfl (by kernel_rfl)) ?_
 refine pl_val (.bool r6.2) (y_extract rfl (by kernel_rfl)) ?_
 refine pl_val (.int .i64 r6.1) (y_assign rfl) ?_
 refine pl_val (.bool r6.2) (y_assign rfl) ?_
 refine c_nil ?_
 refine c_sr ?_
 refine pl_val (.bool r6.2) (y_move rfl) ?_
 refine pl_val (.bool r6.2) (y_assign rfl) ?_
 refine c_nil ?_
 refine wp_ret ?_
 cases hs
 exact ⟨_, fr_ovl 20 ⟨rfl, trivial⟩, hC⟩

theorem Bd92 : Bodied Try.prog 92 := bodied Try.func92 (by kernel_rfl) rfl

theorem Ag51 : AggT Try.prog 51 true := fun _ => by kernel_rfl

theorem Sz51 : SzT Try.prog 51 2 := ⟨_, rfl, rfl⟩

theorem Bd64 : Bodied Try.prog 64 := bodied Try.func64 (by kernel_rfl) rfl

def k_spec_l13Break (M : Nat → Prop) (w0 : World) (r : (List Int) × (List Int) × Bool) (a : Act) (w : World) : Prop :=
  ∃ (σ : Nat → Value) (ra0 : Option Addr) (rn0 rc0 : Nat) (ra1 : Option Addr) (rn1 rc1 : Nat), a = fr 50 (ovl σ [(6, (.slice ra0 rn0 rc0)), (7, (.slice ra1 rn1 rc1)), (8, (.bool r.2.2))]) ∧ Chg [] w0 w ∧ (RT.rs (RT.int .i64)).val (Past M w0 w) w (.slice ra0 rn0 rc0) r.1 [] ∧ (RT.rs (RT.int .i64)).val (Past M w0 w) w (.slice ra1 rn1 rc1) r.2.1 []
def s_spec_l13Break (n : Int) (op : Int × (List Int)) (r_ : Int × (List (List Int))) : Option ((List Int) × (List Int) × Bool) :=
  ((bif (op.1 == 0) then (mks op.1 (0 : Int)).bind fun y29 =>
  some (y29, true) else (mks op.1 (0 : Int)).bind fun y32 =>
  some (y32, (decide (0 < (r_.2.length : Int)))))).bind fun s21 =>
  (iter (S := (List Int) × Bool) (R := (List Int) × (List Int) × Bool) (fun s87 =>
  (bif s87.2 then (s_spec_l8Choose r_.2 s87.1).bind fun r111 =>
  (s_spec_l13Result n (op.1, op.2) r111 r_.1).bind fun r114 =>
  (s_spec_l13Has (r_.1, r_.2) r114).bind fun r117 =>
  (bif (!r117) then some (.rt (s87.1, r114, true)) else (s_spec_l8Next s87.1 (r_.2.length : Int)).bind fun r121 =>
  some (.nx (r121.1, r121.2))) else some (.br (s87.1, s87.2)))) FU (s21.1, s21.2)).bind fun o91 => after o91 (fun r_ => some r_) (fun s87 =>
  some ([], [], false))
set_option maxHeartbeats 4000000 in
theorem c_spec_l13Break {M : Nat → Prop} {w : World} {pa0 : Option Addr} {pn0 pc0 : Nat} {pa1 : Option Addr} {pn1 pc1 : Nat} (n : Int) (op : Int × (List Int)) (r_ : Int × (List (List Int))) (h0 : (RT.rs (RT.int .i64)).val M w (.slice pa0 pn0 pc0) op.2 ([])) (h1 : (RT.rs (RT.rs (RT.int .i64))).val M w (.slice pa1 pn1 pc1) r_.2 ([])) (hM : ∀ g, w.heap.size ≤ g → M g) {r : (List Int) × (List Int) × Bool} (hs : s_spec_l13Break n op r_ = some r) :
    Gives Try.prog 73 [(.int .i64 n), (.agg #[(.int .i64 op.1), (.slice pa0 pn0 pc0)]), (.agg #[(.int .i64 r_.1), (.slice pa1 pn1 pc1)])] w (fun v w' => ∃ (ra0 : Option Addr) (rn0 rc0 : Nat) (ra1 : Option Addr) (rn1 rc1 : Nat), v = (.tuple #[(.slice ra0 rn0 rc0), (.slice ra1 rn1 rc1), (.bool r.2.2)]) ∧ Chg [] w w' ∧ (RT.rs (RT.int .i64)).val (Past M w w') w' (.slice ra0 rn0 rc0) r.1 [] ∧ (RT.rs (RT.int .i64)).val (Past M w w') w' (.slice ra1 rn1 rc1) r.2.1 []) := by
 refine calls_fr Try.func73 rfl Try.ntmps73 (Nat.le_of_ble_eq_true rfl) ?_
 have hO := Own.start (N := Nw w []) hM Nw.fut
 have hC := Chg.refl [] w
 unfold s_spec_l13Break at hs
 refine wp_mono (Q := KPost (k_spec_l13Break M w r)) ?_ (fun e a i6 h => ?_)
 rotate_left
 ·cases e
  case ret =>
   obtain ⟨σ, ra0, rn0, rc0, ra1, rn1, rc1, rfl, hrest⟩ := h
   exact ret3x Try.results73 (res_tmp rfl) (res_tmp rfl) (res_tmp rfl) ⟨ra0, rn0, rc0, ra1, rn1, rc1, rfl, hrest⟩
  all_goals exact (h : False).elim
 refine c_sr ?_
 obtain ⟨g5, a5, i7, g6, d7, a0⟩ := new_block w [(.int .i64 op.1), (.slice pa0 pn0 pc0)] 36
 refine pl_val (w' := g5) (.pointer (some ⟨a5, 0, none⟩)) (y_box rfl (by rw [i7, g6]; kernel_rfl)) ?_
 have h0 := h0.ext d7
 have h1 := h1.ext d7
 have hC := hC.ext d7
 have hO := hO.new1 d7 g6 a0.lt
 obtain ⟨e8, a3, i9, g7, d2, a1⟩ := new_block g5 [(.int .i64 r_.1), (.slice pa1 pn1 pc1)] 51
 refine pl_val (w' := e8) (.pointer (some ⟨a3, 0, none⟩)) (y_box rfl (by rw [i9, g7]; kernel_rfl)) ?_
 have h0 := h0.ext d2
 have h1 := h1.ext d2
 have a0 := a0.cn d2
 have hC := hC.ext d2
 have hO := hO.new1 d2 g7 a1.lt
 refine pl_val (.slice none 0 0) (y_assign rfl) ?_
 refine pl_val (.slice none 0 0) (y_assign rfl) ?_
 refine pl_val (.bool false) (y_assign rfl) ?_
 refine c_nil ?_
 refine c_seq ?_
 obtain ⟨s21, j0, hs⟩ := bind_some hs
 refine c_mid (I := fun a b6 => ∃ (σ : Nat → Value) (d8 : Option Addr) (d9 : Nat) (e0 : Nat) (e1 : List Nat), a = fr 50 (ovl σ [(0, (.int .i64 n)), (4, (.pointer (some ⟨a5, 0, none⟩))), (5, (.pointer (some ⟨a3, 0, none⟩))), (9, (.slice d8 d9 e0)), (10, (.bool s21.2))]) ∧ Chg [] w b6 ∧ Own (Nw w []) M b6 (e1 ++ (([a3]) ++ (([a5]) ++ []))) ∧ (RT.rs (RT.int .i64)).val M b6 (.slice pa0 pn0 pc0) op.2 ([]) ∧ (RT.rs (RT.rs (RT.int .i64))).val M b6 (.slice pa1 pn1 pc1) r_.2 ([]) ∧ BoxV b6 a5 36 [(.int .i64 op.1), (.slice pa0 pn0 pc0)] ∧ BoxV b6 a3 51 [(.int .i64 r_.1), (.slice pa1 pn1 pc1)] ∧ (RT.os 3 (RT.int .i64)).val M b6 (.slice d8 d9 e0) s21.1 e1) ?_ ?_
 ·replace hs := j0
  refine x_start [] Mx rfl ?_
  have c4 := Chg.drew e8
  generalize World.drew e8 = e9 at c4 ⊢
  have h0 := h0.ext c4
  have h1 := h1.ext c4
  have a0 := a0.cn c4
  have a1 := a1.cn c4
  have hC := hC.ext c4
  have hO := hO.ext c4
  have hS := Chg.refl [] e9
  refine x_p 0 (.pointer (some ⟨a5, 0, none⟩)) rfl (by kernel_rfl)  (fun _ => y_faddr rfl Fa36x0) (fun _ => hS) ?_
  refine x_l 1 (.int .i64 op.1) rfl (by kernel_rfl)  (fun w' hw' => y_load rfl ((box_load Ag3 Sz3 a0 [] [(.int .i64 op.1)] [(.slice pa0 pn0 pc0)] rfl rfl (fun _ => rfl)) w' hw')) hS ?_
  refine x_p 3 (.pointer (some ⟨a5, 0, none⟩)) rfl (by kernel_rfl)  (fun _ => y_faddr rfl Fa36x0) (fun _ => hS) ?_
  refine x_l 4 (.int .i64 op.1) rfl (by kernel_rfl)  (fun w' hw' => y_load rfl ((box_load Ag3 Sz3 a0 [] [(.int .i64 op.1)] [(.slice pa0 pn0 pc0)] rfl rfl (fun _ => rfl)) w' hw')) hS ?_
  refine x_p 5 (.bool (op.1 == 0)) rfl (by kernel_rfl)  (fun _ => y_eql rfl rfl) (fun _ => hS) ?_
  refine x_p 6 (.bool (op.1 == 0)) rfl (by kernel_rfl)  (fun _ => y_move rfl) (fun _ => hS) ?_
  rcases bif_some hs with ⟨a7, hs⟩ | ⟨a7, hs⟩
  ·skip
   refine x_pn 7 rfl (by kernel_rfl) (tg := 18) (by kernel_rfl) (congrArg Value.bool a7) (fun _ => hS) ?_
   refine x_pn 8 rfl (by kernel_rfl) (tg := 18) (by kernel_rfl) (congrArg Value.bool a7) (fun _ => hS) ?_
   refine x_pn 9 rfl (by kernel_rfl) (tg := 18) (by kernel_rfl) (congrArg Value.bool a7) (fun _ => hS) ?_
   refine x_pn 10 rfl (by kernel_rfl) (tg := 18) (by kernel_rfl) (congrArg Value.bool a7) (fun _ => hS) ?_
   refine x_p 11 (.bool true) rfl (by kernel_rfl)  (fun _ => y_pick_t (congrArg Value.bool a7) rfl) (fun _ => hS) ?_
   refine x_one (i := 2) (by kernel_rfl) ?_
   obtain ⟨y29, j1, hs⟩ := bind_some hs
   obtain ⟨f0, f1, f2, j2, j3, j4, b7, j5, f3⟩ := mk_os (M := M) (w := e9) (r := (RT.int .i64)) Rw25 j1 (fun _ _ => ⟨rfl, rfl⟩)
   refine xk_val (w' := j2) (b := false) (.slice f0 f1 f2) rfl  (y_make rfl rfl j4) rfl (fun _ => hS.ext b7) ?_
   have h0 := h0.ext b7
   have h1 := h1.ext b7
   have a0 := a0.cn b7
   have a1 := a1.cn b7
   have hC := hC.ext b7
   have hO := hO.new b7 j5 (os_nodup f3) f3.fpl
   have hS := hS.ext b7
   refine x_p 12 (.slice f0 f1 f2) rfl (by kernel_rfl)  (fun _ => y_assign rfl) (fun _ => hS) ?_
   refine x_p 13 (.bool true) rfl (by kernel_rfl)  (fun _ => y_assign rfl) (fun _ => hS) ?_
   refine x_end (by kernel_rfl) ?_
   clear hS
   cases hs
   have hO := hO.fr2
   have hO := hO.fr2
   have hO := hO.fr2
   exact ⟨_, f0, f1, f2, j3, fr_ovl 50 ⟨rfl, rfl, rfl, rfl, rfl, trivial⟩, hC, hO, h0, h1, a0, a1, f3⟩
  refine x_py 7 (.pointer (some ⟨a3, 1, none⟩)) rfl (by kernel_rfl) (tg := 18) (by kernel_rfl) (congrArg Value.bool a7) (fun _ => y_faddr rfl Fa51x1) (fun _ => hS) ?_
  refine x_ly 8 (.slice pa1 pn1 pc1) rfl (by kernel_rfl) (tg := 18) (by kernel_rfl) (congrArg Value.bool a7) (fun w' hw' => y_load rfl ((box_load Ag49 Sz49 a1 [(.int .i64 r_.1)] [(.slice pa1 pn1 pc1)] [] rfl rfl (fun _ => rfl)) w' hw')) hS ?_
  refine x_py 9 (.int .i64 (r_.2.length : Int)) rfl (by kernel_rfl) (tg := 18) (by kernel_rfl) (congrArg Value.bool a7) (fun _ => y_len' Sl49 (rs_len h1) rfl) (fun _ => hS) ?_
  refine x_py 10 (.bool (decide (0 < (r_.2.length : Int)))) rfl (by kernel_rfl) (tg := 18) (by kernel_rfl) (congrArg Value.bool a7) (fun _ => y_gtr rfl rfl) (fun _ => hS) ?_
  refine x_p 11 (.bool (decide (0 < (r_.2.length : Int)))) rfl (by kernel_rfl)  (fun _ => y_pick_f (congrArg Value.bool a7) rfl) (fun _ => hS) ?_
  refine x_one (i := 2) (by kernel_rfl) ?_
  obtain ⟨y32, j6, hs⟩ := bind_some hs
  obtain ⟨f4, f5, f6, j7, j8, j9, b8, k0, f7⟩ := mk_os (M := M) (w := e9) (r := (RT.int .i64)) Rw25 j6 (fun _ _ => ⟨rfl, rfl⟩)
  refine xk_val (w' := j7) (b := false) (.slice f4 f5 f6) rfl  (y_make rfl rfl j9) rfl (fun _ => hS.ext b8) ?_
  have h0 := h0.ext b8
  have h1 := h1.ext b8
  have a0 := a0.cn b8
  have a1 := a1.cn b8
  have hC := hC.ext b8
  have hO := hO.new b8 k0 (os_nodup f7) f7.fpl
  have hS := hS.ext b8
  refine x_p 12 (.slice f4 f5 f6) rfl (by kernel_rfl)  (fun _ => y_assign rfl) (fun _ => hS) ?_
  refine x_p 13 (.bool (decide (0 < (r_.2.length : Int)))) rfl (by kernel_rfl)  (fun _ => y_assign rfl) (fun _ => hS) ?_
  refine x_end (by kernel_rfl) ?_
  clear hS
  cases hs
  have hO := hO.fr2
  have hO := hO.fr2
  have hO := hO.fr2
  exact ⟨_, f4, f5, f6, j8, fr_ovl 50 ⟨rfl, rfl, rfl, rfl, rfl, trivial⟩, hC, hO, h0, h1, a0, a1, f7⟩
 rintro g8 b6 ⟨σ, d8, d9, e0, e1, rfl, hC, hO, h0, h1, a0, a1, k1⟩
 refine c_seq ?_
 obtain ⟨o91, k2, hs⟩ := bind_some hs
 refine wp_block ?_
 refine wp_iter (id := 0) (I := fun s87 a a2 => ∃ (σ : Nat → Value) (c5 : Nat → Prop) (b1 : Option Addr) (b2 : Nat) (b3 : Nat) (e2 : List Nat), a = fr 50 (ovl σ [(0, (.int .i64 n)), (4, (.pointer (some ⟨a5, 0, none⟩))), (5, (.pointer (some ⟨a3, 0, none⟩))), (9, (.slice b1 b2 b3)), (10, (.bool s87.2))]) ∧ Chg [] w a2 ∧ Own (Nw w []) c5 a2 (e2 ++ (([a3]) ++ (([a5]) ++ []))) ∧ Keeps w M c5 ∧ (RT.rs (RT.int .i64)).val c5 a2 (.slice pa0 pn0 pc0) op.2 ([]) ∧ (RT.rs (RT.rs (RT.int .i64))).val c5 a2 (.slice pa1 pn1 pc1) r_.2 ([]) ∧ BoxV a2 a5 36 [(.int .i64 op.1), (.slice pa0 pn0 pc0)] ∧ BoxV a2 a3 51 [(.int .i64 r_.1), (.slice pa1 pn1 pc1)] ∧ (RT.os 3 (RT.int .i64)).val c5 a2 (.slice b1 b2 b3) s87.1 e2) (J := fun s87 a a2 => ∃ (σ : Nat → Value) (a9 : Nat → Prop) (g9 : Option Addr) (h2 : Nat) (h3 : Nat) (f8 : List Nat), a = fr 50 (ovl σ []) ∧ Chg [] w a2 ∧ Own (Nw w []) a9 a2 (f8 ++ (([a3]) ++ (([a5]) ++ []))) ∧ Keeps w M a9 ∧ (RT.rs (RT.int .i64)).val a9 a2 (.slice pa0 pn0 pc0) op.2 ([]) ∧ (RT.rs (RT.rs (RT.int .i64))).val a9 a2 (.slice pa1 pn1 pc1) r_.2 ([]) ∧ BoxV a2 a5 36 [(.int .i64 op.1), (.slice pa0 pn0 pc0)] ∧ BoxV a2 a3 51 [(.int .i64 r_.1), (.slice pa1 pn1 pc1)] ∧ (RT.os 3 (RT.int .i64)).val a9 a2 (.slice g9 h2 h3) s87.1 f8) (K := (k_spec_l13Break M w)) ?_ FU (s21.1, s21.2) o91 _ _ ?_ k2 ?_
 ·rintro s87 o91 a a2 ⟨σ, c5, b1, b2, b3, e2, rfl, hC, hO, hK, h0, h1, a0, a1, e3⟩ hs
  refine c_seq ?_
  refine c_sr ?_
  refine pl_val (.bool s87.2) (y_move rfl) ?_
  refine c_nil ?_
  rcases bif_some hs with ⟨f9, hs⟩ | ⟨f9, hs⟩
  ·refine c_condT (congrArg Value.bool f9) ?_
   refine wp_skip ?_
   refine wp_block ?_
   refine c_seq ?_
   refine x_start [] Mx rfl ?_
   have b9 := Chg.drew a2
   generalize World.drew a2 = b4 at b9 ⊢
   have h0 := h0.ext b9
   have h1 := h1.ext b9
   have a0 := a0.cn b9
   have a1 := a1.cn b9
   have e3 := e3.ext b9
   have hC := hC.ext b9
   have hO := hO.ext b9
   have hS := Chg.refl [] b4
   refine x_p 0 (.int .i64 n) rfl (by kernel_rfl)  (fun _ => y_move rfl) (fun _ => hS) ?_
   refine x_l 1 (.agg #[(.int .i64 op.1), (.slice pa0 pn0 pc0)]) rfl (by kernel_rfl)  (fun w' hw' => y_load rfl ((box_load Ag36 Sz36 a0 [] [(.int .i64 op.1), (.slice pa0 pn0 pc0)] [] rfl rfl (fun h => nomatch h)) w' hw')) hS ?_
   refine x_p 2 (.pointer (some ⟨a3, 1, none⟩)) rfl (by kernel_rfl)  (fun _ => y_faddr rfl Fa51x1) (fun _ => hS) ?_
   refine x_l 3 (.slice pa1 pn1 pc1) rfl (by kernel_rfl)  (fun w' hw' => y_load rfl ((box_load Ag49 Sz49 a1 [(.int .i64 r_.1)] [(.slice pa1 pn1 pc1)] [] rfl rfl (fun _ => rfl)) w' hw')) hS ?_
   refine x_p 4 (.slice b1 b2 b3) rfl (by kernel_rfl)  (fun _ => y_move rfl) (fun _ => hS) ?_
   refine x_p 6 (.pointer (some ⟨a3, 0, none⟩)) rfl (by kernel_rfl)  (fun _ => y_faddr rfl Fa51x0) (fun _ => hS) ?_
   refine x_l 7 (.int .i64 r_.1) rfl (by kernel_rfl)  (fun w' hw' => y_load rfl ((box_load Ag3 Sz3 a1 [] [(.int .i64 r_.1)] [(.slice pa1 pn1 pc1)] rfl rfl (fun _ => rfl)) w' hw')) hS ?_
   refine x_one (i := 5) (by kernel_rfl) ?_
   obtain ⟨a6, m0, h4, k3, hO, a4⟩ := frz_own (Frz.os Frz.int) e3 hO
   have h0 := h0.sub (M' := a6) h4
   have h1 := h1.sub (M' := a6) h4
   have hK := hK.trans k3
   obtain ⟨r111, k4, hs⟩ := bind_some hs
   refine xk_call (b := false) rfl  Bd86 rfl (c_spec_l8Choose (M := a6) r_.2 s87.1 h1 a4 hO.fut k4) rfl (by rintro _ _ _ ⟨k5, k6, k7, rfl, b0, c8⟩; exact hS.ext b0) ?_
   rintro _ c0 ⟨k5, k6, k7, rfl, b0, c8⟩
   have hK := hK.trans (show Keeps w a6 (Past a6 b4 c0) from Keeps.past hC.size)
   have h0 := h0.ext b0
   have h1 := h1.ext b0
   have a0 := a0.cn b0
   have a1 := a1.cn b0
   have a4 := a4.ext b0
   have hC := hC.ext b0
   have hO := hO.past b0
   have h0 := h0.sub (M' := (Past a6 b4 c0)) (fun g hg => .inl hg.1)
   have h1 := h1.sub (M' := (Past a6 b4 c0)) (fun g hg => .inl hg.1)
   have a4 := a4.sub (M' := (Past a6 b4 c0)) (fun g hg => .inl hg.1)
   have hS := hS.ext b0
   refine x_one (i := 8) (by kernel_rfl) ?_
   obtain ⟨r114, k8, hs⟩ := bind_some hs
   refine xk_call (b := false) rfl  Bd92 rfl (c_spec_l13Result (M := (Past a6 b4 c0)) n (op.1, op.2) r111 r_.1 h0 c8 hO.fut k8) rfl (by rintro _ _ _ ⟨c9, d0, d1, e4, rfl, a8, c6, h5⟩; exact hS.ext a8) ?_
   rintro _ m1 ⟨c9, d0, d1, e4, rfl, a8, c6, h5⟩
   have h0 := h0.ext a8
   have h1 := h1.ext a8
   have a0 := a0.cn a8
   have a1 := a1.cn a8
   have a4 := a4.ext a8
   have c8 := c8.ext a8
   have hC := hC.ext a8
   have hO := Own.join0 hO a8 h5
   have hO := hO.perm (R := e4 ++ (([a3]) ++ (([a5]) ++ ([])))) (by simp)
   have hS := hS.ext a8
   refine x_p 9 (.slice c9 d0 d1) rfl (by kernel_rfl)  (fun _ => y_assign rfl) (fun _ => hS) ?_
   refine x_end (by kernel_rfl) ?_
   clear hS
   refine c_seq ?_
   refine c_sr ?_
   refine pl_val (.agg #[(.int .i64 r_.1), (.slice pa1 pn1 pc1)]) (y_load rfl ((box_load Ag51 Sz51 a1 [] [(.int .i64 r_.1), (.slice pa1 pn1 pc1)] [] rfl rfl (fun h => nomatch h)) _ (Chg.refl _ _))) ?_
   refine pl_val (.slice c9 d0 d1) (y_move rfl) ?_
   obtain ⟨r117, k9, hs⟩ := bind_some hs
   refine pl_call Bd64 rfl (c_spec_l13Has (M := (Less (Past a6 b4 c0) e4)) (r_.1, r_.2) r114 (h1.sub Less.sub) (((Frz.os Frz.int)).val c6 Less.sub Less.not) hO.less.fut k9) ?_
   rintro _ m2 ⟨rfl, b5⟩
   have h0 := h0.ext b5
   have h1 := h1.ext b5
   have a0 := a0.cn b5
   have a1 := a1.cn b5
   have a4 := a4.ext b5
   have c8 := c8.ext b5
   have c6 := c6.ext b5
   have hC := hC.ext b5
   have hO := hO.ext b5
   refine pl_val (.bool (!r117)) (y_not rfl) ?_
   refine c_nil ?_
   rcases bif_some hs with ⟨g0, hs⟩ | ⟨g0, hs⟩
   ·refine c_condT (congrArg Value.bool g0) ?_
    refine c_sr ?_
    refine pl_val (.slice b1 b2 b3) (y_move rfl) ?_
    refine pl_val (.slice c9 d0 d1) (y_move rfl) ?_
    refine pl_val (.slice b1 b2 b3) (y_assign rfl) ?_
    refine pl_val (.slice c9 d0 d1) (y_assign rfl) ?_
    refine pl_val (.bool true) (y_assign rfl) ?_
    refine c_nil ?_
    refine wp_ret ?_
    cases hs
    obtain ⟨g1, m3, g2, l0, hO, l1⟩ := frz_own (Frz.os Frz.int) c6 hO
    have h0 := h0.sub (M' := g1) g2
    have h1 := h1.sub (M' := g1) g2
    have a4 := a4.sub (M' := g1) g2
    have hK := hK.trans l0
    exact ⟨_, b1, b2, b3, c9, d0, d1, fr_ovl 50 ⟨rfl, rfl, rfl, trivial⟩, hC, (Keeps.out hK a4), (Keeps.out hK l1)⟩
   refine c_condF (congrArg Value.bool g0) ?_
   refine wp_skip ?_
   refine c_region ?_
   refine pl_val (.slice b1 b2 b3) (y_move rfl) ?_
   refine pl_val (.pointer (some ⟨a3, 1, none⟩)) (y_faddr rfl Fa51x1) ?_
   refine pl_val (.slice pa1 pn1 pc1) (y_load rfl ((box_load Ag49 Sz49 a1 [(.int .i64 r_.1)] [(.slice pa1 pn1 pc1)] [] rfl rfl (fun _ => rfl)) _ (Chg.refl _ _))) ?_
   refine pl_val (.int .i64 (r_.2.length : Int)) (y_len' Sl49 (rs_len h1) rfl) ?_
   obtain ⟨r121, l2, hs⟩ := bind_some hs
   refine pl_call Bd87 rfl (c_spec_l8Next (M := (Past a6 b4 c0)) s87.1 (r_.2.length : Int) a4 hO.fut l2) ?_
   rintro _ m4 ⟨e5, e6, e7, h6, rfl, c1, l3, l4⟩
   have h0 := h0.ext c1
   have h1 := h1.ext c1
   have a0 := a0.cn c1
   have a1 := a1.cn c1
   have a4 := a4.ext c1
   have c6 := c6.ext c1
   have hC := hC.ext c1
   have hO := Own.join0 hO c1 l4
   have hO := hO.perm (R := h6 ++ (e4 ++ (([a3]) ++ (([a5]) ++ ([]))))) (by simp)
   refine pl_val (.tuple #[(.slice e5 e6 e7), (.bool r121.2)]) (y_move rfl) ?_
   refine pl_val (.slice e5 e6 e7) (y_extract rfl (by kernel_rfl)) ?_
   refine pl_val (.bool r121.2) (y_extract rfl (by kernel_rfl)) ?_
   refine pl_val (.slice e5 e6 e7) (y_assign rfl) ?_
   refine pl_val (.bool r121.2) (y_assign rfl) ?_
   refine c_nil ?_
   cases hs
   have hO := hO.fr1
   have hO := hO.drop
   have hO := hO.fr2
   have hO := hO.fr2
   have hO := hO.fr2
   exact ⟨_, (Past a6 b4 c0), e5, e6, e7, h6, fr_ovl 50 ⟨rfl, rfl, rfl, rfl, rfl, trivial⟩, hC, hO, hK, h0, h1, a0, a1, l3⟩
  refine c_condF (congrArg Value.bool f9) ?_
  refine wp_exit ?_
  cases hs
  have hO := hO.fr2
  have hO := hO.fr2
  have hO := hO.fr2
  exact ⟨rfl, _, c5, b1, b2, b3, e2, fr_ovl 50 trivial, hC, hO, hK, h0, h1, a0, a1, e3⟩
 ·skip
  have hO := hO.fr2
  have hO := hO.fr2
  have hO := hO.fr2
  exact ⟨_, M, d8, d9, e0, e1, fr_ovl 50 ⟨rfl, rfl, rfl, rfl, rfl, trivial⟩, hC, hO, Keeps.refl, h0, h1, a0, a1, k1⟩
 cases o91 with
 | nx _ => exact True.intro
 | rt r_ =>
  have hs := after_rt hs
  intro g8 i6 hK
  cases hs
  exact hK
 | br s87 =>
  have hs := after_br hs
  rintro g8 a2 ⟨σ, a9, g9, h2, h3, f8, rfl, hC, hO, hK, h0, h1, a0, a1, c2⟩
  refine c_sr ?_
  obtain ⟨g3, d3, l5, h7, c7, h8⟩ := new_block a2 [] 3
  refine pl_val (w' := g3) (.slice (some ⟨d3, 0, none⟩) 0 0) (y_bslice rfl (by rw [l5, h7]; kernel_rfl)) ?_
  have h0 := h0.ext c7
  have h1 := h1.ext c7
  have a0 := a0.cn c7
  have a1 := a1.cn c7
  have c2 := c2.ext c7
  have hC := hC.ext c7
  have hO := hO.new1 c7 h7 h8.lt
  have d4 := os_of_box (r := (RT.int .i64)) (M := a9) (css := []) (fps := []) (xs := ([] : List Int)) h8 trivial (Nat.zero_le _) (List.nodup_cons.2 ⟨(fun h => nomatch h), List.nodup_nil⟩)
  have d4 : (RT.os 3 (RT.int .i64)).val a9 g3 (.slice (some ⟨d3, 0, none⟩) 0 0) [] [d3] := d4
  obtain ⟨h9, d5, l6, i0, c3, i1⟩ := new_block g3 [] 3
  refine pl_val (w' := h9) (.slice (some ⟨d5, 0, none⟩) 0 0) (y_bslice rfl (by rw [l6, i0]; kernel_rfl)) ?_
  have h0 := h0.ext c3
  have h1 := h1.ext c3
  have a0 := a0.cn c3
  have a1 := a1.cn c3
  have c2 := c2.ext c3
  have d4 := d4.ext c3
  have hC := hC.ext c3
  have hO := hO.new1 c3 i0 i1.lt
  have d6 := os_of_box (r := (RT.int .i64)) (M := a9) (css := []) (fps := []) (xs := ([] : List Int)) i1 trivial (Nat.zero_le _) (List.nodup_cons.2 ⟨(fun h => nomatch h), List.nodup_nil⟩)
  have d6 : (RT.os 3 (RT.int .i64)).val a9 h9 (.slice (some ⟨d5, 0, none⟩) 0 0) [] [d5] := d6
  refine pl_val (.slice (some ⟨d3, 0, none⟩) 0 0) (y_assign rfl) ?_
  refine pl_val (.slice (some ⟨d5, 0, none⟩) 0 0) (y_assign rfl) ?_
  refine pl_val (.bool false) (y_assign rfl) ?_
  refine c_nil ?_
  refine wp_ret ?_
  cases hs
  have hO := hO.fr1
  obtain ⟨i2, m5, i3, l7, hO, g4⟩ := frz_own (Frz.os Frz.int) d4 hO
  have c2 := c2.sub (M' := i2) i3
  have d6 := d6.sub (M' := i2) i3
  have hK := hK.trans l7
  obtain ⟨i4, m6, i5, l8, hO, l9⟩ := frz_own (Frz.os Frz.int) d6 hO
  have c2 := c2.sub (M' := i4) i5
  have g4 := g4.sub (M' := i4) i5
  have hK := hK.trans l8
  exact ⟨_, (some ⟨d3, 0, none⟩), 0, 0, (some ⟨d5, 0, none⟩), 0, 0, fr_ovl 50 ⟨rfl, rfl, rfl, trivial⟩, hC, (Keeps.out hK g4), (Keeps.out hK l9)⟩

theorem Bd73 : Bodied Try.prog 73 := bodied Try.func73 (by kernel_rfl) rfl

def k_spec_l13Keeps (M : Nat → Prop) (w0 : World) (r : Bool) (a : Act) (w : World) : Prop :=
  ∃ (σ : Nat → Value) , a = fr 20 (ovl σ [(6, (.bool r))]) ∧ Chg [] w0 w
def s_spec_l13Keeps (n : Int) (op : Int × (List Int)) (r_ : Int × (List (List Int))) : Option (Bool) :=
  (s_spec_l13Break n (op.1, op.2) (r_.1, r_.2)).bind fun r6 =>
  some (!r6.2.2)
set_option maxHeartbeats 4000000 in
theorem c_spec_l13Keeps {M : Nat → Prop} {w : World} {pa0 : Option Addr} {pn0 pc0 : Nat} {pa1 : Option Addr} {pn1 pc1 : Nat} (n : Int) (op : Int × (List Int)) (r_ : Int × (List (List Int))) (h0 : (RT.rs (RT.int .i64)).val M w (.slice pa0 pn0 pc0) op.2 ([])) (h1 : (RT.rs (RT.rs (RT.int .i64))).val M w (.slice pa1 pn1 pc1) r_.2 ([])) (hM : ∀ g, w.heap.size ≤ g → M g) {r : Bool} (hs : s_spec_l13Keeps n op r_ = some r) :
    Gives Try.prog 58 [(.int .i64 n), (.agg #[(.int .i64 op.1), (.slice pa0 pn0 pc0)]), (.agg #[(.int .i64 r_.1), (.slice pa1 pn1 pc1)])] w (fun v w' => v = (.bool r) ∧ Chg [] w w') := by
 refine calls_fr Try.func58 rfl Try.ntmps58 (Nat.le_of_ble_eq_true rfl) ?_
 have hO := Own.start (N := Nw w []) hM Nw.fut
 have hC := Chg.refl [] w
 unfold s_spec_l13Keeps at hs
 refine wp_mono (Q := KPost (k_spec_l13Keeps M w r)) ?_ (fun e a c1 h => ?_)
 rotate_left
 ·cases e
  case ret =>
   obtain ⟨σ, rfl, hrest⟩ := h
   exact ret1x Try.results58 (res_tmp rfl) ⟨rfl, hrest⟩
  all_goals exact (h : False).elim
 refine c_sr ?_
 obtain ⟨b3, b6, b7, b4, a3, a0⟩ := new_block w [(.int .i64 op.1), (.slice pa0 pn0 pc0)] 36
 refine pl_val (w' := b3) (.pointer (some ⟨b6, 0, none⟩)) (y_box rfl (by rw [b7, b4]; kernel_rfl)) ?_
 have h0 := h0.ext a3
 have h1 := h1.ext a3
 have hC := hC.ext a3
 have hO := hO.new1 a3 b4 a0.lt
 obtain ⟨a4, b8, b9, b5, a2, a5⟩ := new_block b3 [(.int .i64 r_.1), (.slice pa1 pn1 pc1)] 51
 refine pl_val (w' := a4) (.pointer (some ⟨b8, 0, none⟩)) (y_box rfl (by rw [b9, b5]; kernel_rfl)) ?_
 have h0 := h0.ext a2
 have h1 := h1.ext a2
 have a0 := a0.cn a2
 have hC := hC.ext a2
 have hO := hO.new1 a2 b5 a5.lt
 refine pl_val (.bool false) (y_assign rfl) ?_
 refine c_nil ?_
 refine c_sr ?_
 refine pl_val (.int .i64 n) (y_move rfl) ?_
 refine pl_val (.agg #[(.int .i64 op.1), (.slice pa0 pn0 pc0)]) (y_load rfl ((box_load Ag36 Sz36 a0 [] [(.int .i64 op.1), (.slice pa0 pn0 pc0)] [] rfl rfl (fun h => nomatch h)) _ (Chg.refl _ _))) ?_
 refine pl_val (.agg #[(.int .i64 r_.1), (.slice pa1 pn1 pc1)]) (y_load rfl ((box_load Ag51 Sz51 a5 [] [(.int .i64 r_.1), (.slice pa1 pn1 pc1)] [] rfl rfl (fun h => nomatch h)) _ (Chg.refl _ _))) ?_
 obtain ⟨r6, c0, hs⟩ := bind_some hs
 refine pl_call Bd73 rfl (c_spec_l13Break (M := M) n (op.1, op.2) (r_.1, r_.2) h0 h1 hO.fut c0) ?_
 rintro _ a6 ⟨a7, a8, a9, b0, b1, b2, rfl, a1, c2, c3⟩
 have hK := (show Keeps w M (Past M a4 a6) from Keeps.past hC.size)
 have h0 := h0.ext a1
 have h1 := h1.ext a1
 have a0 := a0.cn a1
 have a5 := a5.cn a1
 have hC := hC.ext a1
 have hO := hO.past a1
 have h0 := h0.sub (M' := (Past M a4 a6)) (fun g hg => .inl hg.1)
 have h1 := h1.sub (M' := (Past M a4 a6)) (fun g hg => .inl hg.1)
 refine pl_val (.tuple #[(.slice a7 a8 a9), (.slice b0 b1 b2), (.bool r6.2.2)]) (y_move rfl) ?_
 refine pl_val (.slice a7 a8 a9) (y_extract rfl (by kernel_rfl)) ?_
 refine pl_val (.slice b0 b1 b2) (y_extract rfl (by kernel_rfl)) ?_
 refine pl_val (.bool r6.2.2) (y_extract rfl (by kernel_rfl)) ?_
 refine pl_val (.slice a7 a8 a9) (y_assign rfl) ?_
 refine pl_val (.slice b0 b1 b2) (y_assign rfl) ?_
 refine pl_val (.bool r6.2.2) (y_assign rfl) ?_
 refine c_nil ?_
 refine c_sr ?_
 refine pl_val (.bool r6.2.2) (y_move rfl) ?_
 refine pl_val (.bool (!r6.2.2)) (y_not rfl) ?_
 refine pl_val (.bool (!r6.2.2)) (y_assign rfl) ?_
 refine c_nil ?_
 refine wp_ret ?_
 cases hs
 exact ⟨_, fr_ovl 20 ⟨rfl, trivial⟩, hC⟩

theorem Bd58 : Bodied Try.prog 58 := bodied Try.func58 (by kernel_rfl) rfl

def k_spec_l18Broken (M : Nat → Prop) (w0 : World) (r : Int) (a : Act) (w : World) : Prop :=
  ∃ (σ : Nat → Value) , a = fr 24 (ovl σ [(6, (.int .i64 r))]) ∧ Chg [] w0 w
def s_spec_l18Broken (n : Int) (all : List (List (List Int))) (op : Int × (List Int)) : Option (Int) :=
  (forC (S := Unit) (R := Int) (fun k14 s12 =>
  (idx all k14).bind fun x19 =>
  (s_spec_l13Keeps n (op.1, op.2) (2, x19)).bind fun r24 =>
  (bif (!r24) then some (.rt k14) else some (.nx ()))) 0 (all.length : Int) ()).bind fun o16 => after o16 (fun r_ => some r_) (fun s12 =>
  some (-1))
set_option maxHeartbeats 4000000 in
theorem c_spec_l18Broken {M : Nat → Prop} {w : World} {pa0 : Option Addr} {pn0 pc0 : Nat} {pa1 : Option Addr} {pn1 pc1 : Nat} (n : Int) (all : List (List (List Int))) (op : Int × (List Int)) (h0 : (RT.rs (RT.rs (RT.rs (RT.int .i64)))).val M w (.slice pa0 pn0 pc0) all ([])) (h1 : (RT.rs (RT.int .i64)).val M w (.slice pa1 pn1 pc1) op.2 ([])) (hM : ∀ g, w.heap.size ≤ g → M g) {r : Int} (hs : s_spec_l18Broken n all op = some r) :
    Gives Try.prog 36 [(.int .i64 n), (.slice pa0 pn0 pc0), (.agg #[(.int .i64 op.1), (.slice pa1 pn1 pc1)])] w (fun v w' => v = (.int .i64 r) ∧ Chg [] w w') := by
 refine calls_fr Try.func36 rfl Try.ntmps36 (Nat.le_of_ble_eq_true rfl) ?_
 have hO := Own.start (N := Nw w []) hM Nw.fut
 have hC := Chg.refl [] w
 unfold s_spec_l18Broken at hs
 refine wp_mono (Q := KPost (k_spec_l18Broken M w r)) ?_ (fun e a b2 h => ?_)
 rotate_left
 ·cases e
  case ret =>
   obtain ⟨σ, rfl, hrest⟩ := h
   exact ret1x Try.results36 (res_tmp rfl) ⟨rfl, hrest⟩
  all_goals exact (h : False).elim
 refine c_sr ?_
 obtain ⟨b3, a3, b4, a8, a5, a1⟩ := new_block w [(.int .i64 op.1), (.slice pa1 pn1 pc1)] 36
 refine pl_val (w' := b3) (.pointer (some ⟨a3, 0, none⟩)) (y_box rfl (by rw [b4, a8]; kernel_rfl)) ?_
 have h0 := h0.ext a5
 have h1 := h1.ext a5
 have hC := hC.ext a5
 have hO := hO.new1 a5 a8 a1.lt
 refine pl_val (.int .i64 0) (y_assign rfl) ?_
 refine c_nil ?_
 refine c_seq ?_
 refine c_sr ?_
 refine pl_val (.int .i64 0) (y_assign rfl) ?_
 refine c_nil ?_
 obtain ⟨o16, b5, hs⟩ := bind_some hs
 refine wp_block ?_
 refine wp_forC (id := 0) (all.length : Int) (I := fun k14 s12 a a0 => ∃ (σ : Nat → Value), a = fr 24 (ovl σ [(0, (.int .i64 n)), (1, (.slice pa0 pn0 pc0)), (5, (.pointer (some ⟨a3, 0, none⟩))), (7, (.int .i64 k14))]) ∧ Chg [] w a0 ∧ Own (Nw w []) M a0 (([a3]) ++ []) ∧ (RT.rs (RT.rs (RT.rs (RT.int .i64)))).val M a0 (.slice pa0 pn0 pc0) all ([]) ∧ (RT.rs (RT.int .i64)).val M a0 (.slice pa1 pn1 pc1) op.2 ([]) ∧ BoxV a0 a3 36 [(.int .i64 op.1), (.slice pa1 pn1 pc1)]) (J := fun s12 a a0 => ∃ (σ : Nat → Value), a = fr 24 (ovl σ []) ∧ Chg [] w a0 ∧ Own (Nw w []) M a0 (([a3]) ++ []) ∧ (RT.rs (RT.rs (RT.rs (RT.int .i64)))).val M a0 (.slice pa0 pn0 pc0) all ([]) ∧ (RT.rs (RT.int .i64)).val M a0 (.slice pa1 pn1 pc1) op.2 ([]) ∧ BoxV a0 a3 36 [(.int .i64 op.1), (.slice pa1 pn1 pc1)]) (K := (k_spec_l18Broken M w)) ?_ ?_ 0 () o16 _ _ ?_ b5 ?_
 ·rintro k14 s12 a a0 ⟨σ, rfl, hC, hO, h0, h1, a1⟩ hlt
  refine c_seq ?_
  refine c_sr ?_
  refine pl_val (.int .i64 k14) (y_move rfl) ?_
  refine pl_val (.slice pa0 pn0 pc0) (y_move rfl) ?_
  refine pl_val (.int .i64 (all.length : Int)) (y_len' Sl59 (rs_len h0) rfl) ?_
  refine pl_val (.bool (decide (k14 < (all.length : Int)))) (y_lss rfl rfl) ?_
  refine c_nil ?_
  refine c_condF (congrArg Value.bool (decide_eq_false hlt)) ?_
  refine wp_exit ?_
  exact ⟨rfl, _, fr_ovl 24 trivial, hC, hO, h0, h1, a1⟩
 ·rintro k14 s12 o16 a a0 ⟨σ, rfl, hC, hO, h0, h1, a1⟩ hlt hw hs
  refine c_seq ?_
  refine c_sr ?_
  refine pl_val (.int .i64 k14) (y_move rfl) ?_
  refine pl_val (.slice pa0 pn0 pc0) (y_move rfl) ?_
  refine pl_val (.int .i64 (all.length : Int)) (y_len' Sl59 (rs_len h0) rfl) ?_
  refine pl_val (.bool (decide (k14 < (all.length : Int)))) (y_lss rfl rfl) ?_
  refine c_nil ?_
  refine c_condT (congrArg Value.bool (decide_eq_true hlt)) ?_
  refine wp_skip ?_
  refine c_seq ?_
  refine wp_block ?_
  refine c_seq ?_
  refine x_start [] Mx rfl ?_
  have a4 := Chg.drew a0
  generalize World.drew a0 = b6 at a4 ⊢
  have h0 := h0.ext a4
  have h1 := h1.ext a4
  have a1 := a1.cn a4
  have hC := hC.ext a4
  have hO := hO.ext a4
  have hS := Chg.refl [] b6
  refine x_p 0 (.int .i64 n) rfl (by kernel_rfl)  (fun _ => y_move rfl) (fun _ => hS) ?_
  refine x_l 1 (.agg #[(.int .i64 op.1), (.slice pa1 pn1 pc1)]) rfl (by kernel_rfl)  (fun w' hw' => y_load rfl ((box_load Ag36 Sz36 a1 [] [(.int .i64 op.1), (.slice pa1 pn1 pc1)] [] rfl rfl (fun h => nomatch h)) w' hw')) hS ?_
  refine x_p 2 (.slice pa0 pn0 pc0) rfl (by kernel_rfl)  (fun _ => y_move rfl) (fun _ => hS) ?_
  refine x_p 3 (.int .i64 k14) rfl (by kernel_rfl)  (fun _ => y_move rfl) (fun _ => hS) ?_
  obtain ⟨x19, b7, hs⟩ := bind_some hs
  obtain ⟨b8, b9, c0, c1⟩ := rs_idx Sl59 Sz49 h0 b7
  refine x_p 4 (.pointer (some ⟨b8, b9, none⟩)) rfl (by kernel_rfl)  (fun _ => c0 _ _ _ _ _ _ _ _ _ rfl rfl) (fun _ => hS) ?_
  obtain ⟨c5, c2, a6⟩ := at_load Ag49 Sz49 (fun _ => rfl) c1
  obtain ⟨a9, b0, b1, rfl⟩ := rs_sl a6
  refine x_l 5 (.slice a9 b0 b1) rfl (by kernel_rfl)  (fun w' hw' => y_load rfl (c2 w' hw')) hS ?_
  refine x_p 6 (.agg #[(.int .i64 2), (.slice a9 b0 b1)]) rfl (by kernel_rfl)  (fun _ => y_build rfl (by kernel_rfl)) (fun _ => hS) ?_
  refine x_one (i := 7) (by kernel_rfl) ?_
  obtain ⟨r24, c3, hs⟩ := bind_some hs
  refine xk_call (b := false) rfl  Bd58 rfl (c_spec_l13Keeps (M := M) n (op.1, op.2) (2, x19) h1 a6 hO.fut c3) rfl (by rintro _ _ _ ⟨rfl, a2⟩; exact hS.ext a2) ?_
  rintro _ c6 ⟨rfl, a2⟩
  have h0 := h0.ext a2
  have h1 := h1.ext a2
  have a1 := a1.cn a2
  have a6 := a6.ext a2
  have hC := hC.ext a2
  have hO := hO.ext a2
  have hS := hS.ext a2
  refine x_p 8 (.bool (!r24)) rfl (by kernel_rfl)  (fun _ => y_not rfl) (fun _ => hS) ?_
  refine x_end (by kernel_rfl) ?_
  clear hS
  rcases bif_some hs with ⟨a7, hs⟩ | ⟨a7, hs⟩
  ·refine c_condT (congrArg Value.bool a7) ?_
   refine c_sr ?_
   refine pl_val (.int .i64 k14) (y_move rfl) ?_
   refine pl_val (.int .i64 k14) (y_assign rfl) ?_
   refine c_nil ?_
   refine wp_ret ?_
   cases hs
   exact ⟨_, fr_ovl 24 ⟨rfl, trivial⟩, hC⟩
  refine c_condF (congrArg Value.bool a7) ?_
  refine wp_skip ?_
  refine c_region ?_
  refine pl_val (.int .i64 k14) (y_move rfl) ?_
  refine pl_val (.int .i64 (w64 (k14 + 1))) (y_add rfl rfl) ?_
  refine pl_val (.int .i64 (w64 (k14 + 1))) (y_assign rfl) ?_
  refine c_nil ?_
  cases hs
  exact ⟨_, fr_ovl 24 ⟨rfl, rfl, rfl, congrArg (Value.int .i64) hw, trivial⟩, hC, hO, h0, h1, a1⟩
 ·skip
  exact ⟨_, fr_ovl 24 ⟨rfl, rfl, rfl, rfl, trivial⟩, hC, hO, h0, h1, a1⟩
 cases o16 with
 | nx _ => exact True.intro
 | rt r_ =>
  have hs := after_rt hs
  intro c4 b2 hK
  cases hs
  exact hK
 | br s12 =>
  have hs := after_br hs
  rintro c4 a0 ⟨σ, rfl, hC, hO, h0, h1, a1⟩
  refine c_sr ?_
  refine pl_val (.int .i64 (-1)) (y_assign rfl) ?_
  refine c_nil ?_
  refine wp_ret ?_
  cases hs
  exact ⟨_, fr_ovl 24 ⟨rfl, trivial⟩, hC⟩

theorem Bd34 : Bodied Try.prog 34 := bodied Try.func34 (by kernel_rfl) rfl

theorem Bd36 : Bodied Try.prog 36 := bodied Try.func36 (by kernel_rfl) rfl

def k_spec_FirstPairBroken (M : Nat → Prop) (w0 : World) (r : (Int × (List (List Int))) × Bool) (a : Act) (w : World) : Prop :=
  ∃ (σ : Nat → Value) (rg4 : Nat) (ra0 : Option Addr) (rn0 rc0 : Nat), a = fr 37 (ovl σ [(4, (.pointer (some ⟨rg4, 0, none⟩))), (5, (.bool r.2))]) ∧ BoxV w rg4 51 [(.int .i64 r.1.1), (.slice ra0 rn0 rc0)] ∧ Chg [] w0 w ∧ (RT.rs (RT.rs (RT.int .i64))).val (Past M w0 w) w (.slice ra0 rn0 rc0) r.1.2 []
def s_spec_FirstPairBroken (a_ : Int × (List (Int × (List Int)))) (op : Int × (List Int)) : Option ((Int × (List (List Int))) × Bool) :=
  (s_spec_l18Asked (a_.1, a_.2)).bind fun r7 =>
  ((bif (!r7.2) then some true else (s_spec_l2Op a_.1 (op.1, op.2)).bind fun r14 =>
  some (!r14))).bind fun s9 =>
  (bif s9 then some ((0, []), false) else (s_spec_l18Broken a_.1 r7.1 (op.1, op.2)).bind fun r18 =>
  (bif (decide (r18 < 0)) then some ((0, []), false) else (idx r7.1 r18).bind fun x21 =>
  some ((2, x21), true)))
set_option maxHeartbeats 4000000 in
theorem c_spec_FirstPairBroken {M : Nat → Prop} {w : World} {pa0 : Option Addr} {pn0 pc0 : Nat} {pa1 : Option Addr} {pn1 pc1 : Nat} (a_ : Int × (List (Int × (List Int)))) (op : Int × (List Int)) (h0 : (RT.rs (RT.pr (RT.int .i64) (RT.rs (RT.int .i64)))).val M w (.slice pa0 pn0 pc0) a_.2 ([])) (h1 : (RT.rs (RT.int .i64)).val M w (.slice pa1 pn1 pc1) op.2 ([])) (hM : ∀ g, w.heap.size ≤ g → M g) {r : (Int × (List (List Int))) × Bool} (hs : s_spec_FirstPairBroken a_ op = some r) :
    Gives Try.prog 26 [(.agg #[(.int .i64 a_.1), (.slice pa0 pn0 pc0)]), (.agg #[(.int .i64 op.1), (.slice pa1 pn1 pc1)])] w (fun v w' => ∃ (ra0 : Option Addr) (rn0 rc0 : Nat), v = (.tuple #[(.agg #[(.int .i64 r.1.1), (.slice ra0 rn0 rc0)]), (.bool r.2)]) ∧ Chg [] w w' ∧ (RT.rs (RT.rs (RT.int .i64))).val (Past M w w') w' (.slice ra0 rn0 rc0) r.1.2 []) := by
 refine calls_fr Try.func26 rfl Try.ntmps26 (Nat.le_of_ble_eq_true rfl) ?_
 have hO := Own.start (N := Nw w []) hM Nw.fut
 have hC := Chg.refl [] w
 unfold s_spec_FirstPairBroken at hs
 refine wp_mono (Q := KPost (k_spec_FirstPairBroken M w r)) ?_ (fun e a f7 h => ?_)
 rotate_left
 ·cases e
  case ret =>
   obtain ⟨σ, rg4, ra0, rn0, rc0, rfl, hbrg4, hrest⟩ := h
   exact ret2x Try.results26 (res_cell rfl (box_load Ag51 Sz51 hbrg4 [] _ [] rfl rfl (fun h => nomatch h))) (res_tmp rfl) ⟨ra0, rn0, rc0, rfl, hrest⟩
  all_goals exact (h : False).elim
 refine c_sr ?_
 obtain ⟨d1, c3, e1, d2, c4, a0⟩ := new_block w [(.int .i64 a_.1), (.slice pa0 pn0 pc0)] 34
 refine pl_val (w' := d1) (.pointer (some ⟨c3, 0, none⟩)) (y_box rfl (by rw [e1, d2]; kernel_rfl)) ?_
 have h0 := h0.ext c4
 have h1 := h1.ext c4
 have hC := hC.ext c4
 have hO := hO.new1 c4 d2 a0.lt
 obtain ⟨d3, d4, e2, d5, b8, a1⟩ := new_block d1 [(.int .i64 op.1), (.slice pa1 pn1 pc1)] 36
 refine pl_val (w' := d3) (.pointer (some ⟨d4, 0, none⟩)) (y_box rfl (by rw [e2, d5]; kernel_rfl)) ?_
 have h0 := h0.ext b8
 have h1 := h1.ext b8
 have a0 := a0.cn b8
 have hC := hC.ext b8
 have hO := hO.new1 b8 d5 a1.lt
 obtain ⟨b2, a6, e3, d6, b3, a4⟩ := new_block d3 [(.int .i64 0), (.slice none 0 0)] 51
 refine pl_val (w' := b2) (.pointer (some ⟨a6, 0, none⟩)) (y_alloc (by rw [e3, d6]; kernel_rfl)) ?_
 have h0 := h0.ext b3
 have h1 := h1.ext b3
 have a0 := a0.cn b3
 have a1 := a1.cn b3
 have hC := hC.ext b3
 have hO := hO.new1 b3 d6 a4.lt
 refine pl_val (.bool false) (y_assign rfl) ?_
 refine c_nil ?_
 refine c_sr ?_
 refine pl_val (.agg #[(.int .i64 a_.1), (.slice pa0 pn0 pc0)]) (y_load rfl ((box_load Ag34 Sz34 a0 [] [(.int .i64 a_.1), (.slice pa0 pn0 pc0)] [] rfl rfl (fun h => nomatch h)) _ (Chg.refl _ _))) ?_
 obtain ⟨r7, e4, hs⟩ := bind_some hs
 refine pl_call Bd34 rfl (c_spec_l18Asked (M := M) (a_.1, a_.2) h0 hO.fut e4) ?_
 rintro _ a9 ⟨b4, b5, b6, rfl, b0, a2⟩
 have hK := (show Keeps w M (Past M b2 a9) from Keeps.past hC.size)
 have h0 := h0.ext b0
 have h1 := h1.ext b0
 have a0 := a0.cn b0
 have a1 := a1.cn b0
 have a4 := a4.cn b0
 have hC := hC.ext b0
 have hO := hO.past b0
 have h0 := h0.sub (M' := (Past M b2 a9)) (fun g hg => .inl hg.1)
 have h1 := h1.sub (M' := (Past M b2 a9)) (fun g hg => .inl hg.1)
 refine pl_val (.tuple #[(.slice b4 b5 b6), (.bool r7.2)]) (y_move rfl) ?_
 refine pl_val (.slice b4 b5 b6) (y_extract rfl (by kernel_rfl)) ?_
 refine pl_val (.bool r7.2) (y_extract rfl (by kernel_rfl)) ?_
 refine pl_val (.slice b4 b5 b6) (y_assign rfl) ?_
 refine pl_val (.bool r7.2) (y_assign rfl) ?_
 refine c_nil ?_
 refine c_seq ?_
 refine c_seq ?_
 obtain ⟨s9, e5, hs⟩ := bind_some hs
 refine c_mid (I := fun a d7 => ∃ (σ : Nat → Value), a = fr 37 (ovl σ [(2, (.pointer (some ⟨c3, 0, none⟩))), (3, (.pointer (some ⟨d4, 0, none⟩))), (4, (.pointer (some ⟨a6, 0, none⟩))), (5, (.bool false)), (6, (.slice b4 b5 b6)), (22, (.bool s9))]) ∧ Chg [] a9 d7) ?_ ?_
 ·replace hs := e5
  have hMid := Chg.refl [] a9
  refine c_region ?_
  refine pl_val (.bool r7.2) (y_move rfl) ?_
  refine pl_val (.bool (!r7.2)) (y_not rfl) ?_
  refine pl_val (.bool (!r7.2)) (y_move rfl) ?_
  rcases bif_some hs with ⟨a3, hs⟩ | ⟨a3, hs⟩
  ·skip
   refine pl_not (tg := 16) (by kernel_rfl) (congrArg Value.bool a3) ?_
   refine pl_not (tg := 16) (by kernel_rfl) (congrArg Value.bool a3) ?_
   refine pl_not (tg := 16) (by kernel_rfl) (congrArg Value.bool a3) ?_
   refine pl_not (tg := 16) (by kernel_rfl) (congrArg Value.bool a3) ?_
   refine pl_not (tg := 16) (by kernel_rfl) (congrArg Value.bool a3) ?_
   refine pl_val (.bool true) (y_pick_t (congrArg Value.bool a3) rfl) ?_
   refine c_nil ?_
   cases hs
   exact ⟨_, fr_ovl 37 ⟨rfl, rfl, rfl, rfl, rfl, rfl, trivial⟩, hMid⟩
  refine pl_yes (.pointer (some ⟨c3, 0, none⟩)) (tg := 16) (by kernel_rfl) (congrArg Value.bool a3) (y_faddr rfl Fa34x0) ?_
  refine pl_yes (.int .i64 a_.1) (tg := 16) (by kernel_rfl) (congrArg Value.bool a3) (y_load rfl ((box_load Ag3 Sz3 a0 [] [(.int .i64 a_.1)] [(.slice pa0 pn0 pc0)] rfl rfl (fun _ => rfl)) _ (Chg.refl _ _))) ?_
  refine pl_yes (.agg #[(.int .i64 op.1), (.slice pa1 pn1 pc1)]) (tg := 16) (by kernel_rfl) (congrArg Value.bool a3) (y_load rfl ((box_load Ag36 Sz36 a1 [] [(.int .i64 op.1), (.slice pa1 pn1 pc1)] [] rfl rfl (fun h => nomatch h)) _ (Chg.refl _ _))) ?_
  obtain ⟨r14, e6, hs⟩ := bind_some hs
  refine pl_cally (tg := 16) (by kernel_rfl) (congrArg Value.bool a3) Bd35 rfl (c_spec_l2Op (M := (Past M b2 a9)) a_.1 (op.1, op.2) h1 hO.fut e6) ?_
  rintro _ f8 ⟨rfl, a5⟩
  have h0 := h0.ext a5
  have h1 := h1.ext a5
  have a0 := a0.cn a5
  have a1 := a1.cn a5
  have a4 := a4.cn a5
  have a2 := a2.ext a5
  have hMid := hMid.ext a5
  have hC := hC.ext a5
  have hO := hO.ext a5
  refine pl_yes (.bool (!r14)) (tg := 16) (by kernel_rfl) (congrArg Value.bool a3) (y_not rfl) ?_
  refine pl_val (.bool (!r14)) (y_pick_f (congrArg Value.bool a3) rfl) ?_
  refine c_nil ?_
  cases hs
  exact ⟨_, fr_ovl 37 ⟨rfl, rfl, rfl, rfl, rfl, rfl, trivial⟩, hMid⟩
 rintro f9 d7 ⟨σ, rfl, a7⟩
 have h0 := h0.ext a7
 have h1 := h1.ext a7
 have a0 := a0.cn a7
 have a1 := a1.cn a7
 have a4 := a4.cn a7
 have a2 := a2.ext a7
 have hC := hC.ext a7
 have hO := hO.ext a7
 rcases bif_some hs with ⟨c6, hs⟩ | ⟨c6, hs⟩
 ·refine c_condT (congrArg Value.bool c6) ?_
  refine c_sr ?_
  refine pl_val (.agg #[(.int .i64 0), (.slice none 0 0)]) (y_build rfl (by kernel_rfl)) ?_
  obtain ⟨d8, e7, b1, c7⟩ := box_store (P := Try.prog) a4 [] [(.int .i64 0), (.slice none 0 0)] [] [(.int .i64 0), (.slice none 0 0)] rfl rfl (by intro u hu; simp only [List.mem_cons, List.not_mem_nil, or_false] at hu; rcases hu with rfl | rfl <;> rfl)
  refine pl_skip (w' := d8) (ys_store rfl rfl (e7 _ _ rfl Sz51)) ?_
  have h0 := h0.mt b1 hO same_
  have h1 := h1.mt b1 hO same_
  have a0 := a0.ap b1 hO same_ (mem_r (mem_l (List.mem_singleton.2 rfl)))
  have a1 := a1.ap b1 hO same_ (mem_l (List.mem_singleton.2 rfl))
  have a2 := a2.mt b1 hO same_
  have hC := hC.st b1 hO same_
  have hO := hO.ext b1
  have c7 : BoxV d8 a6 51 [(.int .i64 0), (.slice none 0 0)] := c7
  refine pl_val (.bool false) (y_assign rfl) ?_
  refine c_nil ?_
  refine wp_ret ?_
  cases hs
  exact ⟨_, a6, none, 0, 0, fr_ovl 37 ⟨rfl, rfl, trivial⟩, c7, hC, rs_nil⟩
 refine c_condF (congrArg Value.bool c6) ?_
 refine wp_skip ?_
 refine c_sr ?_
 refine pl_val (.pointer (some ⟨c3, 0, none⟩)) (y_faddr rfl Fa34x0) ?_
 refine pl_val (.int .i64 a_.1) (y_load rfl ((box_load Ag3 Sz3 a0 [] [(.int .i64 a_.1)] [(.slice pa0 pn0 pc0)] rfl rfl (fun _ => rfl)) _ (Chg.refl _ _))) ?_
 refine pl_val (.slice b4 b5 b6) (y_move rfl) ?_
 refine pl_val (.agg #[(.int .i64 op.1), (.slice pa1 pn1 pc1)]) (y_load rfl ((box_load Ag36 Sz36 a1 [] [(.int .i64 op.1), (.slice pa1 pn1 pc1)] [] rfl rfl (fun h => nomatch h)) _ (Chg.refl _ _))) ?_
 obtain ⟨r18, e8, hs⟩ := bind_some hs
 refine pl_call Bd36 rfl (c_spec_l18Broken (M := (Past M b2 a9)) a_.1 r7.1 (op.1, op.2) a2 h1 hO.fut e8) ?_
 rintro _ g0 ⟨rfl, a8⟩
 have h0 := h0.ext a8
 have h1 := h1.ext a8
 have a0 := a0.cn a8
 have a1 := a1.cn a8
 have a4 := a4.cn a8
 have a2 := a2.ext a8
 have hC := hC.ext a8
 have hO := hO.ext a8
 refine pl_val (.int .i64 r18) (y_assign rfl) ?_
 refine c_nil ?_
 refine c_seq ?_
 refine c_sr ?_
 refine pl_val (.int .i64 r18) (y_move rfl) ?_
 refine pl_val (.bool (decide (r18 < 0))) (y_lss rfl rfl) ?_
 refine c_nil ?_
 rcases bif_some hs with ⟨c8, hs⟩ | ⟨c8, hs⟩
 ·refine c_condT (congrArg Value.bool c8) ?_
  refine c_sr ?_
  refine pl_val (.agg #[(.int .i64 0), (.slice none 0 0)]) (y_build rfl (by kernel_rfl)) ?_
  obtain ⟨d9, e9, b9, c9⟩ := box_store (P := Try.prog) a4 [] [(.int .i64 0), (.slice none 0 0)] [] [(.int .i64 0), (.slice none 0 0)] rfl rfl (by intro u hu; simp only [List.mem_cons, List.not_mem_nil, or_false] at hu; rcases hu with rfl | rfl <;> rfl)
  refine pl_skip (w' := d9) (ys_store rfl rfl (e9 _ _ rfl Sz51)) ?_
  have a0 := a0.ap b9 hO same_ (mem_r (mem_l (List.mem_singleton.2 rfl)))
  have a1 := a1.ap b9 hO same_ (mem_l (List.mem_singleton.2 rfl))
  have a2 := a2.mt b9 hO same_
  have hC := hC.st b9 hO same_
  have hO := hO.ext b9
  have c9 : BoxV d9 a6 51 [(.int .i64 0), (.slice none 0 0)] := c9
  refine pl_val (.bool false) (y_assign rfl) ?_
  refine c_nil ?_
  refine wp_ret ?_
  cases hs
  exact ⟨_, a6, none, 0, 0, fr_ovl 37 ⟨rfl, rfl, trivial⟩, c9, hC, rs_nil⟩
 refine c_condF (congrArg Value.bool c8) ?_
 refine wp_skip ?_
 refine c_sr ?_
 refine pl_val (.slice b4 b5 b6) (y_move rfl) ?_
 refine pl_val (.int .i64 r18) (y_move rfl) ?_
 obtain ⟨x21, f0, hs⟩ := bind_some hs
 obtain ⟨f1, f2, f3, f4⟩ := rs_idx Sl59 Sz49 a2 f0
 refine pl_val (.pointer (some ⟨f1, f2, none⟩)) (f3 _ _ _ _ _ _ _ _ _ rfl rfl) ?_
 obtain ⟨g1, f5, c5⟩ := at_load Ag49 Sz49 (fun _ => rfl) f4
 obtain ⟨c0, c1, c2, rfl⟩ := rs_sl c5
 refine pl_val (.slice c0 c1 c2) (y_load rfl (f5 _ (Chg.refl _ _))) ?_
 refine pl_val (.agg #[(.int .i64 2), (.slice c0 c1 c2)]) (y_build rfl (by kernel_rfl)) ?_
 obtain ⟨e0, f6, b7, d0⟩ := box_store (P := Try.prog) a4 [] [(.int .i64 0), (.slice none 0 0)] [] [(.int .i64 2), (.slice c0 c1 c2)] rfl rfl (by intro u hu; simp only [List.mem_cons, List.not_mem_nil, or_false] at hu; rcases hu with rfl | rfl <;> rfl)
 refine pl_skip (w' := e0) (ys_store rfl rfl (f6 _ _ rfl Sz51)) ?_
 have a0 := a0.ap b7 hO same_ (mem_r (mem_l (List.mem_singleton.2 rfl)))
 have a1 := a1.ap b7 hO same_ (mem_l (List.mem_singleton.2 rfl))
 have a2 := a2.mt b7 hO same_
 have c5 := c5.mt b7 hO same_
 have hC := hC.st b7 hO same_
 have hO := hO.ext b7
 have d0 : BoxV e0 a6 51 [(.int .i64 2), (.slice c0 c1 c2)] := d0
 refine pl_val (.bool true) (y_assign rfl) ?_
 refine c_nil ?_
 refine wp_ret ?_
 cases hs
 exact ⟨_, a6, c0, c1, c2, fr_ovl 37 ⟨rfl, rfl, trivial⟩, d0, hC, (Keeps.out hK c5)⟩

def k_impl_power (M : Nat → Prop) (w0 : World) (r : Int) (a : Act) (w : World) : Prop :=
  ∃ (σ : Nat → Value) , a = fr 14 (ovl σ [(4, (.int .i64 r))]) ∧ Chg [] w0 w
def s_impl_power (n : Int) (k : Int) : Option (Int) :=
  (iter (S := Int × Int) (R := Int) (fun s2 =>
  (bif (decide (0 < s2.1)) then some (.nx (w64 (s2.1 - 1), w64 (s2.2 * n))) else some (.br (s2.1, s2.2)))) FU (k, 1)).bind fun o6 => after o6 (fun r_ => some r_) (fun s2 =>
  some s2.2)
set_option maxHeartbeats 4000000 in
theorem c_impl_power {M : Nat → Prop} {w : World}  (n : Int) (k : Int)  (hM : ∀ g, w.heap.size ≤ g → M g) {r : Int} (hs : s_impl_power n k = some r) :
    Gives Try.prog 61 [(.int .i64 n), (.int .i64 k)] w (fun v w' => v = (.int .i64 r) ∧ Chg [] w w') := by
 refine calls_fr Try.func61 rfl Try.ntmps61 (Nat.le_of_ble_eq_true rfl) ?_
 have hO := Own.start (N := Nw w []) hM Nw.fut
 have hC := Chg.refl [] w
 unfold s_impl_power at hs
 refine wp_mono (Q := KPost (k_impl_power M w r)) ?_ (fun e a a2 h => ?_)
 rotate_left
 ·cases e
  case ret =>
   obtain ⟨σ, rfl, hrest⟩ := h
   exact ret1x Try.results61 (res_tmp rfl) ⟨rfl, hrest⟩
  all_goals exact (h : False).elim
 refine c_sr ?_
 refine pl_val (.int .i64 0) (y_assign rfl) ?_
 refine c_nil ?_
 refine c_sr ?_
 refine pl_val (.int .i64 1) (y_assign rfl) ?_
 refine c_nil ?_
 refine c_seq ?_
 obtain ⟨o6, a3, hs⟩ := bind_some hs
 refine wp_block ?_
 refine wp_iter (id := 0) (I := fun s2 a a0 => ∃ (σ : Nat → Value), a = fr 14 (ovl σ [(0, (.int .i64 n)), (1, (.int .i64 s2.1)), (5, (.int .i64 s2.2))]) ∧ Chg [] w a0 ∧ Own (Nw w []) M a0 ([])) (J := fun s2 a a0 => ∃ (σ : Nat → Value), a = fr 14 (ovl σ [(5, (.int .i64 s2.2))]) ∧ Chg [] w a0 ∧ Own (Nw w []) M a0 ([])) (K := (k_impl_power M w)) ?_ FU (k, 1) o6 _ _ ?_ a3 ?_
 ·rintro s2 o6 a a0 ⟨σ, rfl, hC, hO⟩ hs
  refine c_seq ?_
  refine c_sr ?_
  refine pl_val (.int .i64 s2.1) (y_move rfl) ?_
  refine pl_val (.bool (decide (0 < s2.1))) (y_gtr rfl rfl) ?_
  refine c_nil ?_
  rcases bif_some hs with ⟨a1, hs⟩ | ⟨a1, hs⟩
  ·refine c_condT (congrArg Value.bool a1) ?_
   refine wp_skip ?_
   refine c_seq ?_
   refine wp_block ?_
   refine c_region ?_
   refine pl_val (.int .i64 s2.2) (y_move rfl) ?_
   refine pl_val (.int .i64 n) (y_move rfl) ?_
   refine pl_val (.int .i64 (w64 (s2.2 * n))) (y_mul rfl rfl) ?_
   refine pl_val (.int .i64 (w64 (s2.2 * n))) (y_assign rfl) ?_
   refine c_nil ?_
   refine c_region ?_
   refine pl_val (.int .i64 s2.1) (y_move rfl) ?_
   refine pl_val (.int .i64 (w64 (s2.1 - 1))) (y_sub rfl rfl) ?_
   refine pl_val (.int .i64 (w64 (s2.1 - 1))) (y_assign rfl) ?_
   refine c_nil ?_
   cases hs
   exact ⟨_, fr_ovl 14 ⟨rfl, rfl, rfl, trivial⟩, hC, hO⟩
  refine c_condF (congrArg Value.bool a1) ?_
  refine wp_exit ?_
  cases hs
  exact ⟨rfl, _, fr_ovl 14 ⟨rfl, trivial⟩, hC, hO⟩
 ·skip
  exact ⟨_, fr_ovl 14 ⟨rfl, rfl, rfl, trivial⟩, hC, hO⟩
 cases o6 with
 | nx _ => exact True.intro
 | rt r_ =>
  have hs := after_rt hs
  intro a4 a2 hK
  cases hs
  exact hK
 | br s2 =>
  have hs := after_br hs
  rintro a4 a0 ⟨σ, rfl, hC, hO⟩
  refine c_sr ?_
  refine pl_val (.int .i64 s2.2) (y_move rfl) ?_
  refine pl_val (.int .i64 s2.2) (y_assign rfl) ?_
  refine c_nil ?_
  refine wp_ret ?_
  cases hs
  exact ⟨_, fr_ovl 14 ⟨rfl, trivial⟩, hC⟩

def k_impl_inSize (M : Nat → Prop) (w0 : World) (r : Bool) (a : Act) (w : World) : Prop :=
  ∃ (σ : Nat → Value) , a = fr 21 (ovl σ [(4, (.bool r))]) ∧ Chg [] w0 w
def s_impl_inSize (list : List Int) (n : Int) : Option (Bool) :=
  (forR (S := Unit) (R := Bool) (fun _ x8 s5 =>
  (bif (decide (x8 < 0)) then some (.rt false) else (bif (decide (n ≤ x8)) then some (.rt false) else some (.nx ())))) 0 list ()).bind fun o9 => after o9 (fun r_ => some r_) (fun s5 =>
  some true)
set_option maxHeartbeats 4000000 in
theorem c_impl_inSize {M : Nat → Prop} {w : World} {pa0 : Option Addr} {pn0 pc0 : Nat} (list : List Int) (n : Int) (h0 : (RT.rs (RT.int .i64)).val M w (.slice pa0 pn0 pc0) list ([])) (hM : ∀ g, w.heap.size ≤ g → M g) {r : Bool} (hs : s_impl_inSize list n = some r) :
    Gives Try.prog 62 [(.slice pa0 pn0 pc0), (.int .i64 n)] w (fun v w' => v = (.bool r) ∧ Chg [] w w') := by
 refine calls_fr Try.func62 rfl Try.ntmps62 (Nat.le_of_ble_eq_true rfl) ?_
 have hO := Own.start (N := Nw w []) hM Nw.fut
 have hC := Chg.refl [] w
 unfold s_impl_inSize at hs
 refine wp_mono (Q := KPost (k_impl_inSize M w r)) ?_ (fun e a a4 h => ?_)
 rotate_left
 ·cases e
  case ret =>
   obtain ⟨σ, rfl, hrest⟩ := h
   exact ret1x Try.results62 (res_tmp rfl) ⟨rfl, hrest⟩
  all_goals exact (h : False).elim
 refine c_sr ?_
 refine pl_val (.bool false) (y_assign rfl) ?_
 refine c_nil ?_
 refine c_seq ?_
 refine c_sr ?_
 refine pl_val (.slice pa0 pn0 pc0) (y_move rfl) ?_
 refine pl_val (.int .i64 (list.length : Int)) (y_len' Sl25 (rs_len h0) rfl) ?_
 refine pl_val (.int .i64 0) (y_move rfl) ?_
 refine c_nil ?_
 obtain ⟨o9, a5, hs⟩ := bind_some hs
 refine wp_block ?_
 refine wp_forR (id := 0) (I := fun i_ xs_ s5 a a0 => ∃ a1 : Nat, i_ = (a1 : Int) ∧ List.drop a1 list = xs_ ∧ (∃ (σ : Nat → Value), a = fr 21 (ovl σ [(1, (.int .i64 n)), (7, (.slice pa0 pn0 pc0)), (8, (.int .i64 (list.length : Int))), (9, (.int .i64 (a1 : Int)))]) ∧ Chg [] w a0 ∧ Own (Nw w []) M a0 ([]) ∧ (RT.rs (RT.int .i64)).val M a0 (.slice pa0 pn0 pc0) list ([]))) (J := fun s5 a a0 => ∃ (σ : Nat → Value), a = fr 21 (ovl σ []) ∧ Chg [] w a0 ∧ Own (Nw w []) M a0 ([]) ∧ (RT.rs (RT.int .i64)).val M a0 (.slice pa0 pn0 pc0) list ([])) (K := (k_impl_inSize M w)) ?_ ?_ list 0 () o9 _ _ ?_ a5 ?_
 ·rintro _ s5 a a0 ⟨a1, rfl, hd, σ, rfl, hC, hO, h0⟩
  have hlt := drop_nil_ge hd
  refine c_sr ?_
  refine pl_val (.bool (decide ((a1 : Int) < (list.length : Int)))) (y_lss rfl rfl) ?_
  refine c_nil ?_
  refine c_seq ?_
  refine c_condF (congrArg Value.bool (decide_eq_false hlt)) ?_
  refine wp_exit ?_
  exact ⟨rfl, _, fr_ovl 21 trivial, hC, hO, h0⟩
 ·rintro _ x8 xs_ s5 o9 a a0 ⟨a1, rfl, hd, σ, rfl, hC, hO, h0⟩ hs
  have hlt := drop_cons_lt hd
  have a6 := drop_cons_idx hd
  refine c_sr ?_
  refine pl_val (.bool (decide ((a1 : Int) < (list.length : Int)))) (y_lss rfl rfl) ?_
  refine c_nil ?_
  refine c_seq ?_
  refine c_condT (congrArg Value.bool (decide_eq_true hlt)) ?_
  refine wp_skip ?_
  refine c_seq ?_
  refine wp_block ?_
  refine c_sr ?_
  obtain ⟨a7, a8, a9, b0⟩ := rs_idx Sl25 Sz3 h0 a6
  refine pl_val (.pointer (some ⟨a7, a8, none⟩)) (a9 _ _ _ _ _ _ _ _ _ rfl rfl) ?_
  refine pl_val (.int .i64 x8) (y_load rfl ((at_load_int Ag3 Sz3 b0) _ (Chg.refl _ _))) ?_
  refine pl_val (.int .i64 x8) (y_assign rfl) ?_
  refine c_nil ?_
  refine c_sr ?_
  refine pl_val (.int .i64 x8) (y_move rfl) ?_
  refine pl_val (.bool (decide (x8 < 0))) (y_lss rfl rfl) ?_
  refine pl_val (.bool (decide (x8 < 0))) (y_move rfl) ?_
  rcases bif_some hs with ⟨a2, hs⟩ | ⟨a2, hs⟩
  ·skip
   refine pl_not (tg := 15) (by kernel_rfl) (congrArg Value.bool a2) ?_
   refine pl_not (tg := 15) (by kernel_rfl) (congrArg Value.bool a2) ?_
   refine pl_not (tg := 15) (by kernel_rfl) (congrArg Value.bool a2) ?_
   refine pl_val (.bool true) (y_pick_t (congrArg Value.bool a2) rfl) ?_
   refine c_nil ?_
   refine c_condT (by rfl) ?_
   refine c_sr ?_
   refine pl_val (.bool false) (y_assign rfl) ?_
   refine c_nil ?_
   refine wp_ret ?_
   cases hs
   exact ⟨_, fr_ovl 21 ⟨rfl, trivial⟩, hC⟩
  refine pl_yes (.int .i64 x8) (tg := 15) (by kernel_rfl) (congrArg Value.bool a2) (y_move rfl) ?_
  refine pl_yes (.int .i64 n) (tg := 15) (by kernel_rfl) (congrArg Value.bool a2) (y_move rfl) ?_
  refine pl_yes (.bool (decide (n ≤ x8))) (tg := 15) (by kernel_rfl) (congrArg Value.bool a2) (y_geq rfl rfl) ?_
  refine pl_val (.bool (decide (n ≤ x8))) (y_pick_f (congrArg Value.bool a2) rfl) ?_
  refine c_nil ?_
  rcases bif_some hs with ⟨a3, hs⟩ | ⟨a3, hs⟩
  ·refine c_condT (congrArg Value.bool a3) ?_
   refine c_sr ?_
   refine pl_val (.bool false) (y_assign rfl) ?_
   refine c_nil ?_
   refine wp_ret ?_
   cases hs
   exact ⟨_, fr_ovl 21 ⟨rfl, trivial⟩, hC⟩
  refine c_condF (congrArg Value.bool a3) ?_
  refine wp_skip ?_
  refine c_region ?_
  refine pl_val (.int .i64 (w64 ((a1 : Int) + 1))) (y_add rfl rfl) ?_
  refine pl_val (.int .i64 (w64 ((a1 : Int) + 1))) (y_move rfl) ?_
  refine c_nil ?_
  cases hs
  exact ⟨_, rfl, drop_cons_next hd, _, fr_ovl 21 ⟨rfl, rfl, rfl, congrArg (Value.int .i64) (w64_succ hlt (Int.natCast_nonneg _) (rs_max h0)), trivial⟩, hC, hO, h0⟩
 ·skip
  exact ⟨0, rfl, rfl, _, fr_ovl 21 ⟨rfl, rfl, rfl, rfl, trivial⟩, hC, hO, h0⟩
 cases o9 with
 | nx _ => exact True.intro
 | rt r_ =>
  have hs := after_rt hs
  intro b1 a4 hK
  cases hs
  exact hK
 | br s5 =>
  have hs := after_br hs
  rintro b1 a0 ⟨σ, rfl, hC, hO, h0⟩
  refine c_sr ?_
  refine pl_val (.bool true) (y_assign rfl) ?_
  refine c_nil ?_
  refine wp_ret ?_
  cases hs
  exact ⟨_, fr_ovl 21 ⟨rfl, trivial⟩, hC⟩

theorem Bd61 : Bodied Try.prog 61 := bodied Try.func61 (by kernel_rfl) rfl

theorem Bd62 : Bodied Try.prog 62 := bodied Try.func62 (by kernel_rfl) rfl

def k_impl_isOp (M : Nat → Prop) (w0 : World) (r : Bool) (a : Act) (w : World) : Prop :=
  ∃ (σ : Nat → Value) , a = fr 29 (ovl σ [(4, (.bool r))]) ∧ Chg [] w0 w
def s_impl_isOp (f : Int × (List Int)) (n : Int) : Option (Bool) :=
  (bif (decide (0 ≤ f.1)) then (bif (decide (f.1 ≤ 3)) then (s_impl_power n f.1).bind fun r7 =>
  (bif ((f.2.length : Int) == r7) then (s_impl_inSize f.2 n).bind fun r10 =>
  some r10 else some false) else some false) else some false)
set_option maxHeartbeats 4000000 in
theorem c_impl_isOp {M : Nat → Prop} {w : World} {pa0 : Option Addr} {pn0 pc0 : Nat} (f : Int × (List Int)) (n : Int) (h0 : (RT.rs (RT.int .i64)).val M w (.slice pa0 pn0 pc0) f.2 ([])) (hM : ∀ g, w.heap.size ≤ g → M g) {r : Bool} (hs : s_impl_isOp f n = some r) :
    Gives Try.prog 40 [(.agg #[(.int .i64 f.1), (.slice pa0 pn0 pc0)]), (.int .i64 n)] w (fun v w' => v = (.bool r) ∧ Chg [] w w') := by
 refine calls_fr Try.func40 rfl Try.ntmps40 (Nat.le_of_ble_eq_true rfl) ?_
 have hO := Own.start (N := Nw w []) hM Nw.fut
 have hC := Chg.refl [] w
 unfold s_impl_isOp at hs
 refine wp_mono (Q := KPost (k_impl_isOp M w r)) ?_ (fun e a b5 h => ?_)
 rotate_left
 ·cases e
  case ret =>
   obtain ⟨σ, rfl, hrest⟩ := h
   exact ret1x Try.results40 (res_tmp rfl) ⟨rfl, hrest⟩
  all_goals exact (h : False).elim
 refine c_sr ?_
 obtain ⟨a8, a6, b1, b0, a9, a1⟩ := new_block w [(.int .i64 f.1), (.slice pa0 pn0 pc0)] 36
 refine pl_val (w' := a8) (.pointer (some ⟨a6, 0, none⟩)) (y_box rfl (by rw [b1, b0]; kernel_rfl)) ?_
 have h0 := h0.ext a9
 have hC := hC.ext a9
 have hO := hO.new1 a9 b0 a1.lt
 refine pl_val (.bool false) (y_assign rfl) ?_
 refine c_nil ?_
 refine c_seq ?_
 refine x_start [] Mx rfl ?_
 have a7 := Chg.drew a8
 generalize World.drew a8 = b2 at a7 ⊢
 have h0 := h0.ext a7
 have a1 := a1.cn a7
 have hC := hC.ext a7
 have hO := hO.ext a7
 have hS := Chg.refl [] b2
 refine x_p 0 (.pointer (some ⟨a6, 0, none⟩)) rfl (by kernel_rfl)  (fun _ => y_faddr rfl Fa36x0) (fun _ => hS) ?_
 refine x_l 1 (.int .i64 f.1) rfl (by kernel_rfl)  (fun w' hw' => y_load rfl ((box_load Ag3 Sz3 a1 [] [(.int .i64 f.1)] [(.slice pa0 pn0 pc0)] rfl rfl (fun _ => rfl)) w' hw')) hS ?_
 refine x_p 2 (.bool (decide (0 ≤ f.1))) rfl (by kernel_rfl)  (fun _ => y_geq rfl rfl) (fun _ => hS) ?_
 refine x_p 3 (.bool (decide (0 ≤ f.1))) rfl (by kernel_rfl)  (fun _ => y_move rfl) (fun _ => hS) ?_
 rcases bif_some hs with ⟨a3, hs⟩ | ⟨a3, hs⟩
 ·skip
  refine x_py 4 (.pointer (some ⟨a6, 0, none⟩)) rfl (by kernel_rfl) (tg := 8) (by kernel_rfl) (congrArg Value.bool a3) (fun _ => y_faddr rfl Fa36x0) (fun _ => hS) ?_
  refine x_ly 5 (.int .i64 f.1) rfl (by kernel_rfl) (tg := 8) (by kernel_rfl) (congrArg Value.bool a3) (fun w' hw' => y_load rfl ((box_load Ag3 Sz3 a1 [] [(.int .i64 f.1)] [(.slice pa0 pn0 pc0)] rfl rfl (fun _ => rfl)) w' hw')) hS ?_
  refine x_py 6 (.bool (decide (f.1 ≤ 3))) rfl (by kernel_rfl) (tg := 8) (by kernel_rfl) (congrArg Value.bool a3) (fun _ => y_leq rfl rfl) (fun _ => hS) ?_
  refine x_p 7 (.bool (decide (f.1 ≤ 3))) rfl (by kernel_rfl)  (fun _ => y_pick_t (congrArg Value.bool a3) rfl) (fun _ => hS) ?_
  refine x_p 8 (.bool (decide (f.1 ≤ 3))) rfl (by kernel_rfl)  (fun _ => y_move rfl) (fun _ => hS) ?_
  rcases bif_some hs with ⟨a0, hs⟩ | ⟨a0, hs⟩
  ·skip
   refine x_py 9 (.pointer (some ⟨a6, 1, none⟩)) rfl (by kernel_rfl) (tg := 13) (by kernel_rfl) (congrArg Value.bool a0) (fun _ => y_faddr rfl Fa36x1) (fun _ => hS) ?_
   refine x_ly 10 (.slice pa0 pn0 pc0) rfl (by kernel_rfl) (tg := 13) (by kernel_rfl) (congrArg Value.bool a0) (fun w' hw' => y_load rfl ((box_load Ag25 Sz25 a1 [(.int .i64 f.1)] [(.slice pa0 pn0 pc0)] [] rfl rfl (fun _ => rfl)) w' hw')) hS ?_
   refine x_py 11 (.int .i64 (f.2.length : Int)) rfl (by kernel_rfl) (tg := 13) (by kernel_rfl) (congrArg Value.bool a0) (fun _ => y_len' Sl25 (rs_len h0) rfl) (fun _ => hS) ?_
   refine x_py 12 (.int .i64 n) rfl (by kernel_rfl) (tg := 13) (by kernel_rfl) (congrArg Value.bool a0) (fun _ => y_move rfl) (fun _ => hS) ?_
   refine x_py 13 (.pointer (some ⟨a6, 0, none⟩)) rfl (by kernel_rfl) (tg := 13) (by kernel_rfl) (congrArg Value.bool a0) (fun _ => y_faddr rfl Fa36x0) (fun _ => hS) ?_
   refine x_ly 14 (.int .i64 f.1) rfl (by kernel_rfl) (tg := 13) (by kernel_rfl) (congrArg Value.bool a0) (fun w' hw' => y_load rfl ((box_load Ag3 Sz3 a1 [] [(.int .i64 f.1)] [(.slice pa0 pn0 pc0)] rfl rfl (fun _ => rfl)) w' hw')) hS ?_
   refine x_one (i := 15) (by kernel_rfl) ?_
   obtain ⟨r7, b3, hs⟩ := bind_some hs
   refine xk_cally (b := false) rfl (tg := 13) (by kernel_rfl) (congrArg Value.bool a0) Bd61 rfl (c_impl_power (M := M) n f.1  hO.fut b3) rfl (by rintro _ _ _ ⟨rfl, a4⟩; exact hS.ext a4) ?_
   rintro _ b6 ⟨rfl, a4⟩
   have h0 := h0.ext a4
   have a1 := a1.cn a4
   have hC := hC.ext a4
   have hO := hO.ext a4
   have hS := hS.ext a4
   refine x_py 16 (.bool ((f.2.length : Int) == r7)) rfl (by kernel_rfl) (tg := 13) (by kernel_rfl) (congrArg Value.bool a0) (fun _ => y_eql rfl rfl) (fun _ => hS) ?_
   refine x_p 17 (.bool ((f.2.length : Int) == r7)) rfl (by kernel_rfl)  (fun _ => y_pick_t (congrArg Value.bool a0) rfl) (fun _ => hS) ?_
   refine x_p 18 (.bool ((f.2.length : Int) == r7)) rfl (by kernel_rfl)  (fun _ => y_move rfl) (fun _ => hS) ?_
   rcases bif_some hs with ⟨a2, hs⟩ | ⟨a2, hs⟩
   ·skip
    refine x_py 19 (.pointer (some ⟨a6, 1, none⟩)) rfl (by kernel_rfl) (tg := 23) (by kernel_rfl) (congrArg Value.bool a2) (fun _ => y_faddr rfl Fa36x1) (fun _ => hS) ?_
    refine x_py 21 (.int .i64 n) rfl (by kernel_rfl) (tg := 23) (by kernel_rfl) (congrArg Value.bool a2) (fun _ => y_move rfl) (fun _ => hS) ?_
    refine x_one (i := 20) (by kernel_rfl) ?_
    refine xk_valy (b := false) (.slice pa0 pn0 pc0) rfl (tg := 23) (by kernel_rfl) (congrArg Value.bool a2) (y_load rfl ((box_load Ag25 Sz25 a1 [(.int .i64 f.1)] [(.slice pa0 pn0 pc0)] [] rfl rfl (fun _ => rfl)) _ (Chg.refl _ _))) rfl (fun _ => hS) ?_
    refine x_one (i := 22) (by kernel_rfl) ?_
    obtain ⟨r10, b4, hs⟩ := bind_some hs
    refine xk_cally (b := false) rfl (tg := 23) (by kernel_rfl) (congrArg Value.bool a2) Bd62 rfl (c_impl_inSize (M := M) f.2 n h0 hO.fut b4) rfl (by rintro _ _ _ ⟨rfl, a5⟩; exact hS.ext a5) ?_
    rintro _ b7 ⟨rfl, a5⟩
    have h0 := h0.ext a5
    have a1 := a1.cn a5
    have hC := hC.ext a5
    have hO := hO.ext a5
    have hS := hS.ext a5
    refine x_p 23 (.bool r10) rfl (by kernel_rfl)  (fun _ => y_pick_t (congrArg Value.bool a2) rfl) (fun _ => hS) ?_
    refine x_p 24 (.bool r10) rfl (by kernel_rfl)  (fun _ => y_assign rfl) (fun _ => hS) ?_
    refine x_end (by kernel_rfl) ?_
    clear hS
    refine wp_ret ?_
    cases hs
    exact ⟨_, fr_ovl 29 ⟨rfl, trivial⟩, hC⟩
   refine x_pn 19 rfl (by kernel_rfl) (tg := 23) (by kernel_rfl) (congrArg Value.bool a2) (fun _ => hS) ?_
   refine x_pn 20 rfl (by kernel_rfl) (tg := 23) (by kernel_rfl) (congrArg Value.bool a2) (fun _ => hS) ?_
   refine x_pn 21 rfl (by kernel_rfl) (tg := 23) (by kernel_rfl) (congrArg Value.bool a2) (fun _ => hS) ?_
   refine x_pn 22 rfl (by kernel_rfl) (tg := 23) (by kernel_rfl) (congrArg Value.bool a2) (fun _ => hS) ?_
   refine x_p 23 (.bool false) rfl (by kernel_rfl)  (fun _ => y_pick_f (congrArg Value.bool a2) rfl) (fun _ => hS) ?_
   refine x_p 24 (.bool false) rfl (by kernel_rfl)  (fun _ => y_assign rfl) (fun _ => hS) ?_
   refine x_end (by kernel_rfl) ?_
   clear hS
   refine wp_ret ?_
   cases hs
   exact ⟨_, fr_ovl 29 ⟨rfl, trivial⟩, hC⟩
  refine x_pn 9 rfl (by kernel_rfl) (tg := 13) (by kernel_rfl) (congrArg Value.bool a0) (fun _ => hS) ?_
  refine x_pn 10 rfl (by kernel_rfl) (tg := 13) (by kernel_rfl) (congrArg Value.bool a0) (fun _ => hS) ?_
  refine x_pn 11 rfl (by kernel_rfl) (tg := 13) (by kernel_rfl) (congrArg Value.bool a0) (fun _ => hS) ?_
  refine x_pn 12 rfl (by kernel_rfl) (tg := 13) (by kernel_rfl) (congrArg Value.bool a0) (fun _ => hS) ?_
  refine x_pn 13 rfl (by kernel_rfl) (tg := 13) (by kernel_rfl) (congrArg Value.bool a0) (fun _ => hS) ?_
  refine x_pn 14 rfl (by kernel_rfl) (tg := 13) (by kernel_rfl) (congrArg Value.bool a0) (fun _ => hS) ?_
  refine x_pn 15 rfl (by kernel_rfl) (tg := 13) (by kernel_rfl) (congrArg Value.bool a0) (fun _ => hS) ?_
  refine x_pn 16 rfl (by kernel_rfl) (tg := 13) (by kernel_rfl) (congrArg Value.bool a0) (fun _ => hS) ?_
  refine x_p 17 (.bool false) rfl (by kernel_rfl)  (fun _ => y_pick_f (congrArg Value.bool a0) rfl) (fun _ => hS) ?_
  refine x_p 18 (.bool false) rfl (by kernel_rfl)  (fun _ => y_move rfl) (fun _ => hS) ?_
  refine x_pn 19 rfl (by kernel_rfl) (tg := 23) (by kernel_rfl) (by rfl) (fun _ => hS) ?_
  refine x_pn 20 rfl (by kernel_rfl) (tg := 23) (by kernel_rfl) (by rfl) (fun _ => hS) ?_
  refine x_pn 21 rfl (by kernel_rfl) (tg := 23) (by kernel_rfl) (by rfl) (fun _ => hS) ?_
  refine x_pn 22 rfl (by kernel_rfl) (tg := 23) (by kernel_rfl) (by rfl) (fun _ => hS) ?_
  refine x_p 23 (.bool false) rfl (by kernel_rfl)  (fun _ => y_pick_f (by rfl) rfl) (fun _ => hS) ?_
  refine x_p 24 (.bool false) rfl (by kernel_rfl)  (fun _ => y_assign rfl) (fun _ => hS) ?_
  refine x_end (by kernel_rfl) ?_
  clear hS
  refine wp_ret ?_
  cases hs
  exact ⟨_, fr_ovl 29 ⟨rfl, trivial⟩, hC⟩
 refine x_pn 4 rfl (by kernel_rfl) (tg := 8) (by kernel_rfl) (congrArg Value.bool a3) (fun _ => hS) ?_
 refine x_pn 5 rfl (by kernel_rfl) (tg := 8) (by kernel_rfl) (congrArg Value.bool a3) (fun _ => hS) ?_
 refine x_pn 6 rfl (by kernel_rfl) (tg := 8) (by kernel_rfl) (congrArg Value.bool a3) (fun _ => hS) ?_
 refine x_p 7 (.bool false) rfl (by kernel_rfl)  (fun _ => y_pick_f (congrArg Value.bool a3) rfl) (fun _ => hS) ?_
 refine x_p 8 (.bool false) rfl (by kernel_rfl)  (fun _ => y_move rfl) (fun _ => hS) ?_
 refine x_pn 9 rfl (by kernel_rfl) (tg := 13) (by kernel_rfl) (by rfl) (fun _ => hS) ?_
 refine x_pn 10 rfl (by kernel_rfl) (tg := 13) (by kernel_rfl) (by rfl) (fun _ => hS) ?_
 refine x_pn 11 rfl (by kernel_rfl) (tg := 13) (by kernel_rfl) (by rfl) (fun _ => hS) ?_
 refine x_pn 12 rfl (by kernel_rfl) (tg := 13) (by kernel_rfl) (by rfl) (fun _ => hS) ?_
 refine x_pn 13 rfl (by kernel_rfl) (tg := 13) (by kernel_rfl) (by rfl) (fun _ => hS) ?_
 refine x_pn 14 rfl (by kernel_rfl) (tg := 13) (by kernel_rfl) (by rfl) (fun _ => hS) ?_
 refine x_pn 15 rfl (by kernel_rfl) (tg := 13) (by kernel_rfl) (by rfl) (fun _ => hS) ?_
 refine x_pn 16 rfl (by kernel_rfl) (tg := 13) (by kernel_rfl) (by rfl) (fun _ => hS) ?_
 refine x_p 17 (.bool false) rfl (by kernel_rfl)  (fun _ => y_pick_f (by rfl) rfl) (fun _ => hS) ?_
 refine x_p 18 (.bool false) rfl (by kernel_rfl)  (fun _ => y_move rfl) (fun _ => hS) ?_
 refine x_pn 19 rfl (by kernel_rfl) (tg := 23) (by kernel_rfl) (by rfl) (fun _ => hS) ?_
 refine x_pn 20 rfl (by kernel_rfl) (tg := 23) (by kernel_rfl) (by rfl) (fun _ => hS) ?_
 refine x_pn 21 rfl (by kernel_rfl) (tg := 23) (by kernel_rfl) (by rfl) (fun _ => hS) ?_
 refine x_pn 22 rfl (by kernel_rfl) (tg := 23) (by kernel_rfl) (by rfl) (fun _ => hS) ?_
 refine x_p 23 (.bool false) rfl (by kernel_rfl)  (fun _ => y_pick_f (by rfl) rfl) (fun _ => hS) ?_
 refine x_p 24 (.bool false) rfl (by kernel_rfl)  (fun _ => y_assign rfl) (fun _ => hS) ?_
 refine x_end (by kernel_rfl) ?_
 clear hS
 refine wp_ret ?_
 cases hs
 exact ⟨_, fr_ovl 29 ⟨rfl, trivial⟩, hC⟩

theorem Bd40 : Bodied Try.prog 40 := bodied Try.func40 (by kernel_rfl) rfl

def k_impl_IsAlgebra (M : Nat → Prop) (w0 : World) (r : Bool) (a : Act) (w : World) : Prop :=
  ∃ (σ : Nat → Value) , a = fr 32 (ovl σ [(2, (.bool r))]) ∧ Chg [] w0 w
def s_impl_IsAlgebra (a_ : Int × (List (Int × (List Int)))) : Option (Bool) :=
  (bif (((decide (a_.1 < 1)) || (decide (8 < a_.1))) || (decide (4 < (a_.2.length : Int)))) then some false else (forR (S := Unit) (R := Bool) (fun _ x21 s18 =>
  (s_impl_isOp (x21.1, x21.2) a_.1).bind fun r30 =>
  (bif (!r30) then some (.rt false) else some (.nx ()))) 0 a_.2 ()).bind fun o22 => after o22 (fun r_ => some r_) (fun s18 =>
  some true))
set_option maxHeartbeats 4000000 in
theorem c_impl_IsAlgebra {M : Nat → Prop} {w : World} {pa0 : Option Addr} {pn0 pc0 : Nat} (a_ : Int × (List (Int × (List Int)))) (h0 : (RT.rs (RT.pr (RT.int .i64) (RT.rs (RT.int .i64)))).val M w (.slice pa0 pn0 pc0) a_.2 ([])) (hM : ∀ g, w.heap.size ≤ g → M g) {r : Bool} (hs : s_impl_IsAlgebra a_ = some r) :
    Gives Try.prog 59 [(.agg #[(.int .i64 a_.1), (.slice pa0 pn0 pc0)])] w (fun v w' => v = (.bool r) ∧ Chg [] w w') := by
 refine calls_fr Try.func59 rfl Try.ntmps59 (Nat.le_of_ble_eq_true rfl) ?_
 have hO := Own.start (N := Nw w []) hM Nw.fut
 have hC := Chg.refl [] w
 unfold s_impl_IsAlgebra at hs
 refine wp_mono (Q := KPost (k_impl_IsAlgebra M w r)) ?_ (fun e a c7 h => ?_)
 rotate_left
 ·cases e
  case ret =>
   obtain ⟨σ, rfl, hrest⟩ := h
   exact ret1x Try.results59 (res_tmp rfl) ⟨rfl, hrest⟩
  all_goals exact (h : False).elim
 refine c_sr ?_
 obtain ⟨b6, a1, c8, c0, b7, a0⟩ := new_block w [(.int .i64 a_.1), (.slice pa0 pn0 pc0)] 34
 refine pl_val (w' := b6) (.pointer (some ⟨a1, 0, none⟩)) (y_box rfl (by rw [c8, c0]; kernel_rfl)) ?_
 have h0 := h0.ext b7
 have hC := hC.ext b7
 have hO := hO.new1 b7 c0 a0.lt
 refine pl_val (.bool false) (y_assign rfl) ?_
 refine c_nil ?_
 refine c_seq ?_
 refine c_seq ?_
 refine c_mid (I := fun a c1 => ∃ (σ : Nat → Value), a = fr 32 (ovl σ [(1, (.pointer (some ⟨a1, 0, none⟩))), (2, (.bool false)), (18, (.bool (((decide (a_.1 < 1)) || (decide (8 < a_.1))) || (decide (4 < (a_.2.length : Int))))))]) ∧ Chg [] b6 c1) ?_ ?_
 ·have hMid := Chg.refl [] b6
  refine c_region ?_
  refine pl_val (.pointer (some ⟨a1, 0, none⟩)) (y_faddr rfl Fa34x0) ?_
  refine pl_val (.int .i64 a_.1) (y_load rfl ((box_load Ag3 Sz3 a0 [] [(.int .i64 a_.1)] [(.slice pa0 pn0 pc0)] rfl rfl (fun _ => rfl)) _ (Chg.refl _ _))) ?_
  refine pl_val (.bool (decide (a_.1 < 1))) (y_lss rfl rfl) ?_
  refine pl_val (.bool (decide (a_.1 < 1))) (y_move rfl) ?_
  rcases Bool.eq_false_or_eq_true ((decide (a_.1 < 1))) with a5 | a5
  ·skip
   refine pl_not (tg := 8) (by kernel_rfl) (congrArg Value.bool a5) ?_
   refine pl_not (tg := 8) (by kernel_rfl) (congrArg Value.bool a5) ?_
   refine pl_not (tg := 8) (by kernel_rfl) (congrArg Value.bool a5) ?_
   refine pl_val (.bool ((decide (a_.1 < 1)) || (decide (8 < a_.1)))) (y_pick_t (congrArg Value.bool a5) (congrArg Value.bool (by rw [a5]; rfl))) ?_
   refine pl_val (.bool ((decide (a_.1 < 1)) || (decide (8 < a_.1)))) (y_move rfl) ?_
   rcases Bool.eq_false_or_eq_true (((decide (a_.1 < 1)) || (decide (8 < a_.1)))) with a2 | a2
   ·skip
    refine pl_not (tg := 13) (by kernel_rfl) (congrArg Value.bool a2) ?_
    refine pl_not (tg := 13) (by kernel_rfl) (congrArg Value.bool a2) ?_
    refine pl_not (tg := 13) (by kernel_rfl) (congrArg Value.bool a2) ?_
    refine pl_not (tg := 13) (by kernel_rfl) (congrArg Value.bool a2) ?_
    refine pl_val (.bool (((decide (a_.1 < 1)) || (decide (8 < a_.1))) || (decide (4 < (a_.2.length : Int))))) (y_pick_t (congrArg Value.bool a2) (congrArg Value.bool (by rw [a2]; rfl))) ?_
    refine c_nil ?_
    exact ⟨_, fr_ovl 32 ⟨rfl, rfl, rfl, trivial⟩, hMid⟩
   refine pl_yes (.pointer (some ⟨a1, 1, none⟩)) (tg := 13) (by kernel_rfl) (congrArg Value.bool a2) (y_faddr rfl Fa34x1) ?_
   refine pl_yes (.slice pa0 pn0 pc0) (tg := 13) (by kernel_rfl) (congrArg Value.bool a2) (y_load rfl ((box_load Ag32 Sz32 a0 [(.int .i64 a_.1)] [(.slice pa0 pn0 pc0)] [] rfl rfl (fun _ => rfl)) _ (Chg.refl _ _))) ?_
   refine pl_yes (.int .i64 (a_.2.length : Int)) (tg := 13) (by kernel_rfl) (congrArg Value.bool a2) (y_len' Sl32 (rs_len h0) rfl) ?_
   refine pl_yes (.bool (decide (4 < (a_.2.length : Int)))) (tg := 13) (by kernel_rfl) (congrArg Value.bool a2) (y_gtr rfl rfl) ?_
   refine pl_val (.bool (((decide (a_.1 < 1)) || (decide (8 < a_.1))) || (decide (4 < (a_.2.length : Int))))) (y_pick_f (congrArg Value.bool a2) (congrArg Value.bool (by rw [a2]; rfl))) ?_
   refine c_nil ?_
   exact ⟨_, fr_ovl 32 ⟨rfl, rfl, rfl, trivial⟩, hMid⟩
  refine pl_yes (.pointer (some ⟨a1, 0, none⟩)) (tg := 8) (by kernel_rfl) (congrArg Value.bool a5) (y_faddr rfl Fa34x0) ?_
  refine pl_yes (.int .i64 a_.1) (tg := 8) (by kernel_rfl) (congrArg Value.bool a5) (y_load rfl ((box_load Ag3 Sz3 a0 [] [(.int .i64 a_.1)] [(.slice pa0 pn0 pc0)] rfl rfl (fun _ => rfl)) _ (Chg.refl _ _))) ?_
  refine pl_yes (.bool (decide (8 < a_.1))) (tg := 8) (by kernel_rfl) (congrArg Value.bool a5) (y_gtr rfl rfl) ?_
  refine pl_val (.bool ((decide (a_.1 < 1)) || (decide (8 < a_.1)))) (y_pick_f (congrArg Value.bool a5) (congrArg Value.bool (by rw [a5]; rfl))) ?_
  refine pl_val (.bool ((decide (a_.1 < 1)) || (decide (8 < a_.1)))) (y_move rfl) ?_
  rcases Bool.eq_false_or_eq_true (((decide (a_.1 < 1)) || (decide (8 < a_.1)))) with a3 | a3
  ·skip
   refine pl_not (tg := 13) (by kernel_rfl) (congrArg Value.bool a3) ?_
   refine pl_not (tg := 13) (by kernel_rfl) (congrArg Value.bool a3) ?_
   refine pl_not (tg := 13) (by kernel_rfl) (congrArg Value.bool a3) ?_
   refine pl_not (tg := 13) (by kernel_rfl) (congrArg Value.bool a3) ?_
   refine pl_val (.bool (((decide (a_.1 < 1)) || (decide (8 < a_.1))) || (decide (4 < (a_.2.length : Int))))) (y_pick_t (congrArg Value.bool a3) (congrArg Value.bool (by rw [a3]; rfl))) ?_
   refine c_nil ?_
   exact ⟨_, fr_ovl 32 ⟨rfl, rfl, rfl, trivial⟩, hMid⟩
  refine pl_yes (.pointer (some ⟨a1, 1, none⟩)) (tg := 13) (by kernel_rfl) (congrArg Value.bool a3) (y_faddr rfl Fa34x1) ?_
  refine pl_yes (.slice pa0 pn0 pc0) (tg := 13) (by kernel_rfl) (congrArg Value.bool a3) (y_load rfl ((box_load Ag32 Sz32 a0 [(.int .i64 a_.1)] [(.slice pa0 pn0 pc0)] [] rfl rfl (fun _ => rfl)) _ (Chg.refl _ _))) ?_
  refine pl_yes (.int .i64 (a_.2.length : Int)) (tg := 13) (by kernel_rfl) (congrArg Value.bool a3) (y_len' Sl32 (rs_len h0) rfl) ?_
  refine pl_yes (.bool (decide (4 < (a_.2.length : Int)))) (tg := 13) (by kernel_rfl) (congrArg Value.bool a3) (y_gtr rfl rfl) ?_
  refine pl_val (.bool (((decide (a_.1 < 1)) || (decide (8 < a_.1))) || (decide (4 < (a_.2.length : Int))))) (y_pick_f (congrArg Value.bool a3) (congrArg Value.bool (by rw [a3]; rfl))) ?_
  refine c_nil ?_
  exact ⟨_, fr_ovl 32 ⟨rfl, rfl, rfl, trivial⟩, hMid⟩
 rintro c2 c1 ⟨σ, rfl, b5⟩
 have h0 := h0.ext b5
 have a0 := a0.cn b5
 have hC := hC.ext b5
 have hO := hO.ext b5
 rcases bif_some hs with ⟨b8, hs⟩ | ⟨b8, hs⟩
 ·refine c_condT (congrArg Value.bool b8) ?_
  refine c_sr ?_
  refine pl_val (.bool false) (y_assign rfl) ?_
  refine c_nil ?_
  refine wp_ret ?_
  cases hs
  exact ⟨_, fr_ovl 32 ⟨rfl, trivial⟩, hC⟩
 refine c_condF (congrArg Value.bool b8) ?_
 refine wp_skip ?_
 refine c_seq ?_
 refine c_sr ?_
 refine pl_val (.pointer (some ⟨a1, 1, none⟩)) (y_faddr rfl Fa34x1) ?_
 refine pl_val (.slice pa0 pn0 pc0) (y_load rfl ((box_load Ag32 Sz32 a0 [(.int .i64 a_.1)] [(.slice pa0 pn0 pc0)] [] rfl rfl (fun _ => rfl)) _ (Chg.refl _ _))) ?_
 refine pl_val (.int .i64 (a_.2.length : Int)) (y_len' Sl32 (rs_len h0) rfl) ?_
 refine pl_val (.int .i64 0) (y_move rfl) ?_
 refine c_nil ?_
 obtain ⟨o22, c9, hs⟩ := bind_some hs
 refine wp_block ?_
 refine wp_forR (id := 0) (I := fun i_ xs_ s18 a a4 => ∃ a6 : Nat, i_ = (a6 : Int) ∧ List.drop a6 a_.2 = xs_ ∧ (∃ (σ : Nat → Value), a = fr 32 (ovl σ [(1, (.pointer (some ⟨a1, 0, none⟩))), (20, (.slice pa0 pn0 pc0)), (21, (.int .i64 (a_.2.length : Int))), (22, (.int .i64 (a6 : Int)))]) ∧ Chg [] w a4 ∧ Own (Nw w []) M a4 (([a1]) ++ []) ∧ (RT.rs (RT.pr (RT.int .i64) (RT.rs (RT.int .i64)))).val M a4 (.slice pa0 pn0 pc0) a_.2 ([]) ∧ BoxV a4 a1 34 [(.int .i64 a_.1), (.slice pa0 pn0 pc0)])) (J := fun s18 a a4 => ∃ (σ : Nat → Value), a = fr 32 (ovl σ []) ∧ Chg [] w a4 ∧ Own (Nw w []) M a4 (([a1]) ++ []) ∧ (RT.rs (RT.pr (RT.int .i64) (RT.rs (RT.int .i64)))).val M a4 (.slice pa0 pn0 pc0) a_.2 ([]) ∧ BoxV a4 a1 34 [(.int .i64 a_.1), (.slice pa0 pn0 pc0)]) (K := (k_impl_IsAlgebra M w)) ?_ ?_ a_.2 0 () o22 _ _ ?_ c9 ?_
 ·rintro _ s18 a a4 ⟨a6, rfl, hd, σ, rfl, hC, hO, h0, a0⟩
  have hlt := drop_nil_ge hd
  refine c_sr ?_
  refine pl_val (.bool (decide ((a6 : Int) < (a_.2.length : Int)))) (y_lss rfl rfl) ?_
  refine c_nil ?_
  refine c_seq ?_
  refine c_condF (congrArg Value.bool (decide_eq_false hlt)) ?_
  refine wp_exit ?_
  exact ⟨rfl, _, fr_ovl 32 trivial, hC, hO, h0, a0⟩
 ·rintro _ x21 xs_ s18 o22 a a4 ⟨a6, rfl, hd, σ, rfl, hC, hO, h0, a0⟩ hs
  have hlt := drop_cons_lt hd
  have d0 := drop_cons_idx hd
  refine c_sr ?_
  refine pl_val (.bool (decide ((a6 : Int) < (a_.2.length : Int)))) (y_lss rfl rfl) ?_
  refine c_nil ?_
  refine c_seq ?_
  refine c_condT (congrArg Value.bool (decide_eq_true hlt)) ?_
  refine wp_skip ?_
  refine c_seq ?_
  refine wp_block ?_
  refine c_sr ?_
  obtain ⟨d1, d2, d3, d4⟩ := rs_idx Sl32 Sz36 h0 d0
  refine pl_val (.pointer (some ⟨d1, d2, none⟩)) (d3 _ _ _ _ _ _ _ _ _ rfl rfl) ?_
  obtain ⟨e4, d5, d6⟩ := at_load Ag36 Sz36 (by intro h; cases h) d4
  obtain ⟨e5, rfl, d7⟩ := d6
  obtain ⟨e6, e7, rfl, d8, d9⟩ := pr_open d7
  obtain rfl := int_rel d8
  obtain ⟨a9, b0, b1, rfl, a7⟩ := rs_rel d9
  refine pl_val (.agg #[(.int .i64 x21.1), (.slice a9 b0 b1)]) (y_load rfl (d5 _ (Chg.refl _ _))) ?_
  obtain ⟨e0, c3, e1, c4, b2, c5⟩ := new_block a4 [(.int .i64 0), (.slice none 0 0)] 36
  refine pl_val (w' := e0) (.pointer (some ⟨c3, 0, none⟩)) (y_alloc (by rw [e1, c4]; kernel_rfl)) ?_
  have h0 := h0.ext b2
  have a0 := a0.cn b2
  have a7 := a7.ext b2
  have hC := hC.ext b2
  have hO := hO.new1 b2 c4 c5.lt
  obtain ⟨c6, e2, b3, b4⟩ := box_store (P := Try.prog) c5 [] [(.int .i64 0), (.slice none 0 0)] [] [(.int .i64 x21.1), (.slice a9 b0 b1)] rfl rfl (by intro u hu; simp only [List.mem_cons, List.not_mem_nil, or_false] at hu; rcases hu with rfl | rfl <;> rfl)
  refine pl_skip (w' := c6) (ys_store rfl rfl (e2 _ _ rfl Sz36)) ?_
  have h0 := h0.mt b3 hO same_
  have a0 := a0.ap b3 hO same_ (mem_l (List.mem_singleton.2 rfl))
  have a7 := a7.mt b3 hO same_
  have hC := hC.st b3 hO same_
  have hO := hO.ext b3
  have b4 : BoxV c6 c3 36 [(.int .i64 x21.1), (.slice a9 b0 b1)] := b4
  refine c_nil ?_
  refine c_sr ?_
  refine pl_val (.agg #[(.int .i64 x21.1), (.slice a9 b0 b1)]) (y_load rfl ((box_load Ag36 Sz36 b4 [] [(.int .i64 x21.1), (.slice a9 b0 b1)] [] rfl rfl (fun h => nomatch h)) _ (Chg.refl _ _))) ?_
  refine pl_val (.pointer (some ⟨a1, 0, none⟩)) (y_faddr rfl Fa34x0) ?_
  refine pl_val (.int .i64 a_.1) (y_load rfl ((box_load Ag3 Sz3 a0 [] [(.int .i64 a_.1)] [(.slice pa0 pn0 pc0)] rfl rfl (fun _ => rfl)) _ (Chg.refl _ _))) ?_
  obtain ⟨r30, e3, hs⟩ := bind_some hs
  refine pl_call Bd40 rfl (c_impl_isOp (M := M) (x21.1, x21.2) a_.1 a7 hO.fut e3) ?_
  rintro _ e8 ⟨rfl, a8⟩
  have h0 := h0.ext a8
  have a0 := a0.cn a8
  have a7 := a7.ext a8
  have b4 := b4.cn a8
  have hC := hC.ext a8
  have hO := hO.ext a8
  refine pl_val (.bool (!r30)) (y_not rfl) ?_
  refine c_nil ?_
  rcases bif_some hs with ⟨b9, hs⟩ | ⟨b9, hs⟩
  ·refine c_condT (congrArg Value.bool b9) ?_
   refine c_sr ?_
   refine pl_val (.bool false) (y_assign rfl) ?_
   refine c_nil ?_
   refine wp_ret ?_
   cases hs
   exact ⟨_, fr_ovl 32 ⟨rfl, trivial⟩, hC⟩
  refine c_condF (congrArg Value.bool b9) ?_
  refine wp_skip ?_
  refine c_region ?_
  refine pl_val (.int .i64 (w64 ((a6 : Int) + 1))) (y_add rfl rfl) ?_
  refine pl_val (.int .i64 (w64 ((a6 : Int) + 1))) (y_move rfl) ?_
  refine c_nil ?_
  cases hs
  have hO := hO.drop
  exact ⟨_, rfl, drop_cons_next hd, _, fr_ovl 32 ⟨rfl, rfl, rfl, congrArg (Value.int .i64) (w64_succ hlt (Int.natCast_nonneg _) (rs_max h0)), trivial⟩, hC, hO, h0, a0⟩
 ·skip
  exact ⟨0, rfl, rfl, _, fr_ovl 32 ⟨rfl, rfl, rfl, rfl, trivial⟩, hC, hO, h0, a0⟩
 cases o22 with
 | nx _ => exact True.intro
 | rt r_ =>
  have hs := after_rt hs
  intro c2 c7 hK
  cases hs
  exact hK
 | br s18 =>
  have hs := after_br hs
  rintro c2 a4 ⟨σ, rfl, hC, hO, h0, a0⟩
  refine c_sr ?_
  refine pl_val (.bool true) (y_assign rfl) ?_
  refine c_nil ?_
  refine wp_ret ?_
  cases hs
  exact ⟨_, fr_ovl 32 ⟨rfl, trivial⟩, hC⟩

theorem Sl86 : SlT Try.prog 86 4 := Try.underlying86

theorem Sz4 : SzT Try.prog 4 1 := ⟨_, rfl, rfl⟩

theorem Ag4 : AggT Try.prog 4 false := fun _ => by kernel_rfl

end Go.Proofs
